/- ObjectFinds, the plain law. Conditions: none. -/
import Derived.Test.YtnapcfpecpgdbaaMx26
import Derived.Test.YtnapcfpecpgdbaaPl07u
namespace Go.Proofs.Ytnapcfpecpgdbaa.Pure
set_option linter.unusedVariables false
set_option linter.unusedSimpArgs false
open Go.RowKit Go.Proofs.Ytnapcfpecpgdbaa.M Go.Proofs.YtnapcfpecpgdbaaW.PrintWords Go.Proofs.YtnapcfpecpgdbaaW.PrintLast Go.Proofs.Ytnapcfpecpgdbaa.Pl

theorem ObjectFinds : pollardlaw07_ObjectFinds.Pure := by
  intro a0 _
  refine Ev.rounds ?_
  have hz := few_size a0
  unfold pollardlaw07_ObjectFinds.f
  simp only [few_eq, Option.bind_some]
  refine Ev.bind (get_prog (fewV a0) (by omega)) (Ev.bind (get_ref (fewV a0) (by omega)) (Ev.bind awake ?_))
  simp only [if_true, beq_self_eq_true, Bool.and_self]
  unfold tagV
  cases h : tagL (fewV a0).toList with
  | none => exact Ev.now _
  | some q =>
    obtain ⟨i, m, c, t⟩ := q
    obtain ⟨hp, hm1, hm4, hi⟩ := tagL_put h
    simp only
    by_cases h0 : chkV (mk i) m (mk c) (mk t) = 0
    · simp only [if_pos h0, if_true]
      have hl : (putL i m c t).length ≤ 5000 := by rw [hp, toList_length]; omega
      have hl2 : c.length ≤ 5000 ∧ t.length ≤ 5000 := by
        unfold putL at hl
        simp only [List.length_append, List.length_cons] at hl
        omega
      have hput := put_ref (mk i) m (mk c) (mk t) ⟨hm1, hm4⟩ (by rw [mk_size]; omega) (by rw [mk_size]; omega) (by rw [mk_size]; omega)
      simp only [toList_mk] at hput
      rw [hp, mk_toList] at hput
      refine Ev.bind hput ?_
      simp only [beq_self_eq_true]
      exact Ev.now _
    · simp only [if_neg h0]
      exact Ev.now _
end Go.Proofs.Ytnapcfpecpgdbaa.Pure
