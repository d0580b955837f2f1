/- What only one changed is taken; two that are the same come to that. Conditions: none. -/
import Derived.Test.YtfkajhppdeidjaaDoorMx11
import Derived.Test.YtfkajhppdeidjaaDoorPl19e
namespace Go.Proofs.YtfkajhppdeidjaaDoor.Pure
set_option linter.unusedVariables false
open Go.RowKit Go.Proofs.YtfkajhppdeidjaaDoor.M Go.Proofs.YtfkajhppdeidjaaDoorW.PrintWords Go.Proofs.YtfkajhppdeidjaaDoorW.PrintLast Go.Proofs.YtfkajhppdeidjaaDoor.Pl

theorem MergeOnly : ∀ (l0 : List ByteArray) (l1 : List ByteArray), l0.length * Tryd.prog.bytesOf 9 ≤ 140737488351232 → (∀ x ∈ l0, x.size ≤ 140737488351232) → l1.length * Tryd.prog.bytesOf 9 ≤ 140737488351232 → (∀ x ∈ l1, x.size ≤ 140737488351232) → ∃ k, pollardlaw19_MergeOnly.f k l0 l1 = some true := by
  intro l0 l1 _ _ _ _
  obtain ⟨a, ha, la, ea⟩ := text_f l0
  obtain ⟨b, hb, lb, eb⟩ := text_f l1
  have p1 := prog_texts a b a (by omega) (by omega) (by omega) (by omega) (by omega) (by omega)
  have p2 := prog_texts a a b (by omega) (by omega) (by omega) (by omega) (by omega) (by omega)
  have p3 := prog_texts a b b (by omega) (by omega) (by omega) (by omega) (by omega) (by omega)
  rw [txt_left, lines_join] at p1
  rw [txt_right, lines_join] at p2
  rw [txt_both, lines_join] at p3
  replace p1 : Ev (fun k => merge_Texts.f k a b a) (b, true, 0) := p1
  replace p2 : Ev (fun k => merge_Texts.f k a a b) (b, true, 0) := p2
  replace p3 : Ev (fun k => merge_Texts.f k a b b) (b, true, 0) := p3
  refine Ev.rounds (g := fun k => pollardlaw19_MergeOnly.f k l0 l1) ?_
  unfold pollardlaw19_MergeOnly.f
  refine Ev.bind ea ?_
  refine Ev.bind eb ?_
  refine Ev.bind p1 ?_
  refine Ev.bind p2 ?_
  refine Ev.bind p3 ?_
  refine Ev.bind awake19 ?_
  refine Ev.congr (fun k => ?_) (Ev.now true)
  rw [if_pos rfl, if_pos rfl, if_pos rfl, if_pos rfl, if_pos rfl, if_pos rfl, if_pos rfl, if_pos rfl, if_pos rfl]
  exact congrArg some (beq_self_eq_true _)
end Go.Proofs.YtfkajhppdeidjaaDoor.Pure
