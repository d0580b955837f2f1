/- What two texts come to is what the document's chunks do, or there is a clash. Conditions: none. -/
import Derived.Test.YtfkajhppdeidjaaDoorMx18
import Derived.Test.YtfkajhppdeidjaaDoorMx17
import Derived.Test.YtfkajhppdeidjaaDoorPl19c
import Derived.Test.YtfkajhppdeidjaaDoorPl19e
import Derived.Test.YtfkajhppdeidjaaDoorPl18l
namespace Go.Proofs.YtfkajhppdeidjaaDoor.Pure
set_option linter.unusedVariables false
open Go.RowKit Go.Proofs.YtfkajhppdeidjaaDoor.M Go.Proofs.YtfkajhppdeidjaaDoorW.PrintWords Go.Proofs.YtfkajhppdeidjaaDoorW.PrintLast Go.Proofs.YtfkajhppdeidjaaDoor.Pl

theorem put_join : ∀ (l : List ByteArray) (s : ByteArray), s.size + sz l ≤ 1000000 → pollardref19_Text.put l s = some (joinB l s)
  | [], s, _ => rfl
  | x :: l, s, h => by
    have e : sz (x :: l) = x.size + sz l := rfl
    rw [pollardref19_Text.put, if_pos (by omega), joinB]
    exact put_join l _ (by rw [ByteArray.size_append]; omega)
def told : Option ByteArray → ByteArray × Bool
  | some s => (s, true)
  | none => (nilB, false)
theorem ref_txt : ∀ (L : List Chk) (s : ByteArray), s.size + wt L ≤ 1000000 → pollardref19_Text.go (L.map asR) s = some (told (txt L s))
  | [], s, _ => rfl
  | c :: L, s, h => by
    have e : wt (c :: L) = sz (takes c) + wt L := rfl
    rw [List.map_cons, pollardref19_Text.go, txt]
    by_cases h5 : c.1 = 5
    · rw [if_pos (show (asR c).f0 = 5 from h5), if_pos h5]
      rfl
    · rw [if_neg (show ¬ (asR c).f0 = 5 from h5), if_neg h5]
      have hr := ref_txt L (joinB (takes c) s) (by rw [joinB_size]; omega)
      by_cases h3 : c.1 = 3
      · have ht : takes c = c.2.2.2 := by unfold takes; rw [if_pos h3]
        rw [ht] at hr e
        rw [if_pos (show (asR c).f0 = 3 from h3), show (asR c).f3 = c.2.2.2 from rfl, put_join _ _ (by omega), Option.bind_some, ht]
        exact hr
      · have ht : takes c = c.2.2.1 := by unfold takes; rw [if_neg h3]
        rw [ht] at hr e
        rw [if_neg (show ¬ (asR c).f0 = 3 from h3), show (asR c).f2 = c.2.2.1 from rfl, put_join _ _ (by omega), Option.bind_some, ht]
        exact hr

theorem MergeTexts : ∀ (l0 : List ByteArray) (l1 : List ByteArray) (l2 : List ByteArray), l0.length * Tryd.prog.bytesOf 9 ≤ 140737488351232 → (∀ x ∈ l0, x.size ≤ 140737488351232) → l1.length * Tryd.prog.bytesOf 9 ≤ 140737488351232 → (∀ x ∈ l1, x.size ≤ 140737488351232) → l2.length * Tryd.prog.bytesOf 9 ≤ 140737488351232 → (∀ x ∈ l2, x.size ≤ 140737488351232) → ∃ k, pollardlaw19_MergeTexts.f k l0 l1 l2 = some true := by
  intro l0 l1 l2 _ _ _ _ _ _
  obtain ⟨a, ha, la, ea⟩ := text_f l0
  obtain ⟨b, hb, lb, eb⟩ := text_f l1
  obtain ⟨c, hc, lc, ec⟩ := text_f l2
  have p1 := prog_texts a b c (by omega) (by omega) (by omega) (by omega) (by omega) (by omega)
  have q2 := ref_chunks (lines a) (lines b) (lines c) (by omega) (by omega) (by omega)
  obtain ⟨_, _, _, f4, f5, _⟩ := chunks_facts (lines a) (lines b) (lines c)
  have hw := wt_le (chunks (lines a) (lines b) (lines c))
  rw [f4, f5, lines_sz, lines_sz] at hw
  have e0 : nilB.size = 0 := rfl
  have hg := ref_txt (chunks (lines a) (lines b) (lines c)) nilB (by omega)
  have ra := ref_lines_f a (by omega)
  have rb := ref_lines_f b (by omega)
  have rc := ref_lines_f c (by omega)
  generalize chunks (lines a) (lines b) (lines c) = L at *
  generalize txt L nilB = o at *
  have ho : (merge_Texts.out o).2.2 = 0 := by cases o <;> rfl
  have h1 : (merge_Texts.out o).2.1 = (told o).2 := by cases o <;> rfl
  have h2 : (merge_Texts.out o).1 = (told o).1 := by cases o <;> rfl
  refine Ev.rounds (g := fun k => pollardlaw19_MergeTexts.f k l0 l1 l2) ?_
  unfold pollardlaw19_MergeTexts.f
  refine Ev.bind ea ?_
  refine Ev.bind eb ?_
  refine Ev.bind ec ?_
  refine Ev.bind p1 ?_
  refine Ev.bind ra ?_
  refine Ev.bind rb ?_
  refine Ev.bind rc ?_
  refine Ev.bind q2 ?_
  refine Ev.congr (fun k => congrArg (fun z => Option.bind z _) hg) ?_
  refine Ev.congr (fun k => Option.bind_some _ _) ?_
  refine Ev.bind awake19 ?_
  refine Ev.congr (fun k => ?_) (Ev.now true)
  rw [if_pos rfl, if_pos ho, h1, h2, if_pos (beq_self_eq_true _)]
  exact congrArg some (beq_self_eq_true _)
end Go.Proofs.YtfkajhppdeidjaaDoor.Pure
