/- Bytes as digits, by the program. -/
import Derived.Test.YtnapcfpecpgdbaaDoorPl07h
import Derived.Test.YtnapcfpecpgdbaaDoorMx33
namespace Go.Proofs.YtnapcfpecpgdbaaDoor.Pl
set_option linter.unusedVariables false
set_option linter.unusedSimpArgs false
open Go.RowKit Go.Proofs.YtnapcfpecpgdbaaDoor.M Go.Proofs.YtnapcfpecpgdbaaDoorW.PrintWords Go.Proofs.YtnapcfpecpgdbaaDoorW.PrintLast

theorem out_hexL : ∀ l : List UInt8, code_Hex.out l = hexL l
  | [] => rfl
  | c :: cs => by
    have hc := c.toNat_lt
    have h : ∀ n : Fin 16, code_Hex.dg n.1 = hd n.1 := by decide
    rw [code_Hex.out, hexL, out_hexL cs, h ⟨c.toNat / 16, by omega⟩, h ⟨c.toNat % 16, by omega⟩]
theorem hex_prog (s : ByteArray) (hs : s.size ≤ 1099511627776) : code_Hex.f s = some (mk (hexL s.toList)) := by
  unfold code_Hex.f
  rw [if_pos hs, out_hexL, ← toList_eq]
  rfl
end Go.Proofs.YtnapcfpecpgdbaaDoor.Pl
