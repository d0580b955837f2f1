/- ObjectRaws, the plain law. Conditions: none. -/
import Derived.Test.YtnapcfpecpgdbaaMx6
import Derived.Test.YtnapcfpecpgdbaaMx1
import Derived.Test.YtnapcfpecpgdbaaMx5
import Derived.Test.YtnapcfpecpgdbaaPl07r
namespace Go.Proofs.Ytnapcfpecpgdbaa.Pure
set_option linter.unusedVariables false
set_option linter.unusedSimpArgs false
open Go.RowKit Go.Proofs.Ytnapcfpecpgdbaa.M Go.Proofs.YtnapcfpecpgdbaaW.PrintWords Go.Proofs.YtnapcfpecpgdbaaW.PrintLast Go.Proofs.Ytnapcfpecpgdbaa.Pl

def fewR (s : ByteArray) : ByteArray := if s.size > 5000 then s.extract 0 5000 else s
theorem few_eqR (s : ByteArray) : pollardlaw07_few.f s = some (fewR s) := by
  unfold pollardlaw07_few.f fewR
  by_cases h : s.size > 5000
  · rw [if_pos (by omega), if_pos (by omega), if_pos (by omega), if_pos h]
  · rw [if_neg (by omega), if_neg h]
theorem few_sizeR (s : ByteArray) : (fewR s).size ≤ 5000 := by
  unfold fewR
  split
  · rw [ByteArray.size_extract]
    omega
  · omega
theorem raw_smallR (m : Int) (hm : 1 ≤ m ∧ m ≤ 4) (a : ByteArray) (ha : a.size ≤ 262144) : (raw m a).size ≤ 70368744177664 := by
  unfold raw
  rw [mk_size]
  have h1 := (kword_mem m hm).2.2
  have h2 := decL_short a.size (by omega)
  simp only [List.length_append, List.length_cons, toList_length]
  omega
theorem ref_id (s : ByteArray) (hs : s.size ≤ 70368744177664) : pollardref07_ID.f s = some (sum_hash s) := by
  unfold pollardref07_ID.f pollardref01_Sum.f
  rw [if_pos hs]
  rfl
theorem ObjectRaws : pollardlaw07_ObjectRaws.Pure := by
  intro m a1 _ _
  refine Ev.rounds (g := fun k => pollardlaw07_ObjectRaws.f k m a1) ?_
  have hz := few_sizeR a1
  unfold pollardlaw07_ObjectRaws.f
  simp only [few_eqR, Option.bind_some]
  by_cases hm : m < 1 ∨ 4 < m
  · have key : Ev (fun k => pollardlaw07_ObjectRaws.j0 k m a1 ⟨#[]⟩ 70 true) true := by
      refine Ev.step (f := fun k => (pollardlaw07_awake.f k).bind fun t143 => (if t143 = true then (if (70 : Int) = 70 then (some ((⟨#[]⟩ : ByteArray).toList == ([] : List UInt8))) else (none)) else (none))) (fun k => ?_) (Ev.bind awake ?_)
      · rw [pollardlaw07_ObjectRaws.j0, if_pos rfl]
      · have e2 : (⟨#[]⟩ : ByteArray).toList = [] := toList_nil
        simp only [if_true, e2, beq_self_eq_true]
        exact Ev.now _
    refine Ev.congr (fun k => ?_) key
    rw [raw_odd m hm, Option.bind_some]
    by_cases h1 : m < 1
    · rw [if_pos h1]
    · rw [if_neg h1, decide_eq_true (show m > 4 by omega)]
  · have hm' : 1 ≤ m ∧ m ≤ 4 := by omega
    have hs := raw_smallR m hm' (fewR a1) (by omega)
    have ho := open_prog (raw m (fewR a1)) hs
    rw [open_raw m hm' _ (by omega), if_neg (by omega)] at ho
    have key : Ev (fun k => pollardlaw07_ObjectRaws.j0 k m a1 (raw m (fewR a1)) 0 false) true := by
      refine Ev.step (fun k => by rw [pollardlaw07_ObjectRaws.j0]) ?_
      simp only [if_neg (show ¬ (false = true) by decide)]
      refine Ev.bind ho (Ev.bind awake ?_)
      simp only [if_true, few_eqR, Option.bind_some]
      refine Ev.bind (raw_ref m hm' (fewR a1) (by omega)) ?_
      simp only [if_true, id_of _ hs, ref_id _ hs, Option.bind_some, beq_self_eq_true]
      exact Ev.now _
    refine Ev.bind (raw_prog m hm' (fewR a1) (by omega)) ?_
    refine Ev.congr (fun k => ?_) key
    simp only
    rw [if_neg (show ¬ m < 1 by omega), decide_eq_false (show ¬ m > 4 by omega)]
end Go.Proofs.Ytnapcfpecpgdbaa.Pure
