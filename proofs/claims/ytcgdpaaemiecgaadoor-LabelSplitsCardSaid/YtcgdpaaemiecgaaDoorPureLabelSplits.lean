/- A path's names, or why it is none, are told as the document tells them, and come together again. Conditions: none. -/
import Derived.Test.YtcgdpaaemiecgaaDoorMx4
import Derived.Test.YtcgdpaaemiecgaaDoorPl05d
namespace Go.Proofs.YtcgdpaaemiecgaaDoor.Pure
set_option linter.unusedVariables false
open Go.RowKit Go.Proofs.YtcgdpaaemiecgaaDoor.M Go.Proofs.YtcgdpaaemiecgaaDoorW.PrintWords Go.Proofs.YtcgdpaaemiecgaaDoorW.PrintLast Go.Proofs.YtcgdpaaemiecgaaDoor.Pl

theorem splits_l0 (s : ByteArray) (P : List ByteArray) (hP : P.length ≤ 1000000) (e : Int) (t : ByteArray) (ht : pollardlaw05_few.f s = some t) (he : e = 0 → ∃ u, label_Join.f P = some u ∧ u.toList = t.toList) : ∀ (n i : Nat), P.length - i = n → i ≤ P.length →
    Ev (fun k => pollardlaw05_LabelSplits.l0 k s P P e (i : Int)) true := by
  intro n
  induction n with
  | zero =>
    intro i hn hi
    refine Ev.step (f := fun _ => some true) (fun k => ?_) (Ev.now _)
    simp only [pollardlaw05_LabelSplits.l0]
    rw [if_neg (by omega)]
    by_cases h : e = 0
    · obtain ⟨u, h1, h2⟩ := he h
      rw [if_pos h, h1, Option.bind_some, ht, Option.bind_some, h2, beq_self_eq_true]
    · rw [if_neg h]
  | succ n ih =>
    intro i hn hi
    refine Ev.step (f := fun k => pollardlaw05_LabelSplits.l0 k s P P e ((i + 1 : Nat) : Int)) (fun k => ?_) (ih (i + 1) (by omega) (by omega))
    simp only [pollardlaw05_LabelSplits.l0]
    rw [if_pos (by omega), if_pos (by omega), if_pos (by omega), if_pos (by trivial)]
    rw [(w64 (by omega) (by omega)).trans (show (i : Int) + 1 = ((i + 1 : Nat) : Int) by omega)]

theorem LabelSplits : pollardlaw05_LabelSplits.Pure := by
  intro s hs
  obtain ⟨t, ht, hl⟩ := few05 s hs
  have hj : path t = ([], 3) ∨ path t = ([], 50) ∨ path t = ((sp0 47 [] t.toList).map mk, 0) := by
    unfold path told
    split
    · exact .inl rfl
    · split
      · exact .inr (.inr rfl)
      · exact .inr (.inl rfl)
  have hPl := (pieces t (by omega)).1
  have hjoin : label_Join.f ((sp0 47 [] t.toList).map mk) = some t := by
    unfold label_Join.f strings_Join.f
    have e : ((sp0 47 [] t.toList).map mk).map (·.data.toList) = sp0 47 [] t.toList := by
      rw [List.map_map]
      conv => rhs; rw [← List.map_id (sp0 47 [] t.toList)]
      apply List.map_congr_left
      intro a _
      rfl
    have e2 : (⟨#[47]⟩ : ByteArray).data.toList = [47] := rfl
    rw [e, e2, sp0_join, List.nil_append, if_pos ⟨by rw [toList_length]; omega, by omega⟩, Option.bind_some]
    exact congrArg some (mk_toList t)
  obtain ⟨L, e, hp⟩ : ∃ L e, path t = (L, e) := ⟨_, _, rfl⟩
  have hL : L.length ≤ 1000000 ∧ (e = 0 → ∃ u, label_Join.f L = some u ∧ u.toList = t.toList) := by
    rcases hj with h | h | h
    · rw [hp] at h
      obtain ⟨rfl, rfl⟩ := Prod.mk.inj h
      exact ⟨by simp, fun h => by omega⟩
    · rw [hp] at h
      obtain ⟨rfl, rfl⟩ := Prod.mk.inj h
      exact ⟨by simp, fun h => by omega⟩
    · rw [hp] at h
      obtain ⟨rfl, rfl⟩ := Prod.mk.inj h
      exact ⟨by omega, fun _ => ⟨t, hjoin, rfl⟩⟩
  refine Ev.rounds (g := fun k => pollardlaw05_LabelSplits.f k s) ?_
  unfold pollardlaw05_LabelSplits.f
  rw [ht]
  refine Ev.congr (fun k => Option.bind_some _ _) ?_
  refine Ev.bind (hp ▸ prog_split t (by omega)) ?_
  refine Ev.bind (hp ▸ ref_split t (by omega)) ?_
  rw [awake05]
  refine Ev.congr (f := fun k => pollardlaw05_LabelSplits.j0 k s L L e false) (fun k => ?_) ?_
  · rw [Option.bind_some, if_pos rfl, if_pos rfl, bne_self_eq_false]
  refine Ev.step (f := fun k => pollardlaw05_LabelSplits.l0 k s L L e ((0 : Nat) : Int)) (fun k => ?_) (splits_l0 s L hL.1 e t ht hL.2 L.length 0 (by omega) (by omega))
  simp only [pollardlaw05_LabelSplits.j0]
  rw [if_neg (by simp)]
  rfl
end Go.Proofs.YtcgdpaaemiecgaaDoor.Pure
