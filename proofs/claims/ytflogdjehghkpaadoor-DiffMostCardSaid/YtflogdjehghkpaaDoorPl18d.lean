/- What is cut to so many lines, and when the statements on lines in common are awake. -/
import Derived.Test.YtflogdjehghkpaaDoorPl18c
import Derived.Test.YtflogdjehghkpaaDoorMx5
namespace Go.Proofs.YtflogdjehghkpaaDoor.Pl
set_option linter.unusedVariables false
open Go.RowKit Go.Proofs.YtflogdjehghkpaaDoor.M Go.Proofs.YtflogdjehghkpaaDoorW.PrintWords Go.Proofs.YtflogdjehghkpaaDoorW.PrintLast

theorem cut18 (l : List ByteArray) : ∃ a, pollardlaw18_Cut.f l = some a ∧ a.length ≤ 30 := by
  unfold pollardlaw18_Cut.f
  by_cases h : (l.length : Int) > 30
  · rw [if_pos h, if_pos (by omega)]
    exact ⟨_, rfl, by rw [List.length_take]; omega⟩
  · rw [if_neg h]
    exact ⟨_, rfl, by omega⟩
theorem few18 {a b : List ByteArray} (ha : a.length ≤ 30) (hb : b.length ≤ 30) : (a.length + 1) * (b.length + 1) ≤ 1000000 := by
  have h := Nat.mul_le_mul (show a.length + 1 ≤ 31 by omega) (show b.length + 1 ≤ 31 by omega)
  omega
theorem awake18' : Ev (fun k => pollardlaw18_awake.f k) true := Ev.of (fun k => pollardlaw18_awake.mono k) (k := 60) (by decide +kernel)
end Go.Proofs.YtflogdjehghkpaaDoor.Pl
