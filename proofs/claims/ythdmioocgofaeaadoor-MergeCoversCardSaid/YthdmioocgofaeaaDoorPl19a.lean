/- When the statements on texts brought together are awake. -/
import Derived.Test.YthdmioocgofaeaaDoorPlBytes
import Derived.Test.YthdmioocgofaeaaDoorMx7
namespace Go.Proofs.YthdmioocgofaeaaDoor.Pl
set_option linter.unusedVariables false
open Go.RowKit Go.Proofs.YthdmioocgofaeaaDoor.M Go.Proofs.YthdmioocgofaeaaDoorW.PrintWords Go.Proofs.YthdmioocgofaeaaDoorW.PrintLast
theorem awake19 : Ev (fun k => pollardlaw19_awake.f k) true := Ev.of (fun k => pollardlaw19_awake.mono k) (k := 60) (by decide +kernel)
end Go.Proofs.YthdmioocgofaeaaDoor.Pl
