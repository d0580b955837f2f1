/- What is cut to so many lines, and when the statements on lines in common are awake. -/
import Derived.Test.YtflogdjehghkpaaDoorPl18r
import Derived.Test.YtflogdjehghkpaaDoorPlCut
import Derived.Test.YtflogdjehghkpaaDoorMx4
namespace Go.Proofs.YtflogdjehghkpaaDoor.Pl
set_option linter.unusedVariables false
open Go.RowKit Go.Proofs.YtflogdjehghkpaaDoor.M Go.Proofs.YtflogdjehghkpaaDoorW.PrintWords Go.Proofs.YtflogdjehghkpaaDoorW.PrintLast

theorem few18 {a b : List ByteArray} (ha : a.length ≤ 30) (hb : b.length ≤ 30) : (a.length + 1) * (b.length + 1) ≤ 1000000 := by
  have h := Nat.mul_le_mul (show a.length + 1 ≤ 31 by omega) (show b.length + 1 ≤ 31 by omega)
  omega
theorem awake18' : Ev (fun k => pollardlaw18_awake.f k) true := Ev.of (fun k => pollardlaw18_awake.mono k) (k := 60) (by decide +kernel)
end Go.Proofs.YtflogdjehghkpaaDoor.Pl
