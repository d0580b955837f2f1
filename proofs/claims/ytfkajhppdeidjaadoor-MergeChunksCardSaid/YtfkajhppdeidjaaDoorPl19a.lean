/- When the statements on texts brought together are awake. -/
import Derived.Test.YtfkajhppdeidjaaDoorPlBytes
import Derived.Test.YtfkajhppdeidjaaDoorMx14
namespace Go.Proofs.YtfkajhppdeidjaaDoor.Pl
set_option linter.unusedVariables false
open Go.RowKit Go.Proofs.YtfkajhppdeidjaaDoor.M Go.Proofs.YtfkajhppdeidjaaDoorW.PrintWords Go.Proofs.YtfkajhppdeidjaaDoorW.PrintLast
theorem awake19 : Ev (fun k => pollardlaw19_awake.f k) true := Ev.of (fun k => pollardlaw19_awake.mono k) (k := 60) (by decide +kernel)
end Go.Proofs.YtfkajhppdeidjaaDoor.Pl
