/- The reference's words of kinds, and an object's bytes as it has them. -/
import Derived.Test.YtnapcfpecpgdbaaPl07b
import Derived.Test.YtnapcfpecpgdbaaMx4
namespace Go.Proofs.Ytnapcfpecpgdbaa.Pl
set_option linter.unusedVariables false
set_option linter.unusedSimpArgs false
open Go.RowKit Go.Proofs.Ytnapcfpecpgdbaa.M Go.Proofs.YtnapcfpecpgdbaaW.PrintWords Go.Proofs.YtnapcfpecpgdbaaW.PrintLast

theorem kind_ref (m : Int) (h : 1 ≤ m ∧ m ≤ 4) : pollardref07_kind.f m = some (mk (kword m)) := by
  have : m = 1 ∨ m = 2 ∨ m = 3 ∨ m = 4 := by omega
  rcases this with rfl | rfl | rfl | rfl <;> rfl
theorem raw_ref (m : Int) (hm : 1 ≤ m ∧ m ≤ 4) (b : ByteArray) (hb : b.size ≤ 70368744177664) : Ev (fun k => pollardref07_Raw.f k m b) (raw m b) := by
  have h6 := (kword_mem m hm).2.2
  have hd := decL_short b.size (by omega)
  refine Ev.congr (f := fun k => (pollardref02_Dec.f k (b.size : Int)).bind fun t138 => (if (mk (kword m) ++ (⟨#[32]⟩ : ByteArray)).size + t138.size ≤ 9223372036854775807 then (if ((mk (kword m) ++ (⟨#[32]⟩ : ByteArray)) ++ t138).size + 1 ≤ 9223372036854775807 then (if (((mk (kword m) ++ (⟨#[32]⟩ : ByteArray)) ++ t138) ++ (⟨#[0]⟩ : ByteArray)).size + b.size ≤ 9223372036854775807 then (some ((((mk (kword m) ++ (⟨#[32]⟩ : ByteArray)) ++ t138) ++ (⟨#[0]⟩ : ByteArray)) ++ b)) else (none)) else (none)) else (none))) (fun k => ?_) ?_
  · unfold pollardref07_Raw.f
    rw [kind_ref m hm, Option.bind_some, if_pos (by rw [mk_size]; omega), u64w (by omega) (by omega)]
  · refine Ev.bind (dec_ref b.size (by omega)) ?_
    have e1 : (⟨#[32]⟩ : ByteArray).size = 1 := rfl
    have e2 : (⟨#[0]⟩ : ByteArray).size = 1 := rfl
    simp only [ByteArray.size_append, mk_size, e1, e2]
    rw [if_pos (by omega), if_pos (by omega), if_pos (by omega), raw_eq]
    exact Ev.now _

end Go.Proofs.Ytnapcfpecpgdbaa.Pl
