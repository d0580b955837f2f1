import Derived.Test.YtopdlgdacbonpaaMx9
import Derived.Test.YtopdlgdacbonpaaPl06d
namespace Go.Proofs.Ytopdlgdacbonpaa.Pure
set_option linter.unusedVariables false
open Go.RowKit Go.Proofs.Ytopdlgdacbonpaa.M Go.Proofs.YtopdlgdacbonpaaW.PrintWords Go.Proofs.YtopdlgdacbonpaaW.PrintLast Go.Proofs.Ytopdlgdacbonpaa.Pl

theorem reads_l0 (s : ByteArray) (l : List (S36)) (hl : l.length ≤ 1000000) (e : Int) (he : e = 0 → ∃ t, pollardref06_Put.f (l.map cv) = some t ∧ t.toList = s.toList) : ∀ (m i : Nat), i + m = l.length → Ev (fun k => pollardlaw06_TreeReads.l0 k s l (l.map cv) e (i : Int)) true := by
  intro m
  induction m with
  | zero =>
    intro i hi
    by_cases c : e = 0
    · obtain ⟨t, h1, h2⟩ := he c
      refine Ev.step (f := fun _ => some true) (fun k => ?_) (Ev.now _)
      simp only [pollardlaw06_TreeReads.l0]
      rw [if_neg (by rw [List.length_map]; omega), if_pos c, h1, Option.bind_some, h2, beq_self_eq_true]
    · refine Ev.step (f := fun _ => some true) (fun k => ?_) (Ev.now _)
      simp only [pollardlaw06_TreeReads.l0]
      rw [if_neg (by rw [List.length_map]; omega), if_neg c]
  | succ m ih =>
    intro i hi
    refine Ev.step (f := fun k => pollardlaw06_TreeReads.l0 k s l (l.map cv) e ((i + 1 : Nat) : Int)) (fun k => ?_) (ih (i + 1) (by omega))
    simp only [pollardlaw06_TreeReads.l0]
    rw [if_pos (by rw [List.length_map]; omega), if_pos (by omega), if_pos (by omega), rd_cv, if_neg (by simp [cv]), w64 (by omega) (by omega)]
    rfl

theorem reads_f (s : ByteArray) (hs : s.size ≤ 3000) : Ev (fun k => pollardlaw06_TreeReads.j0 k s) true := by
  obtain ⟨l, e, h1, h2, h4, h3⟩ := reads s.size s [] (Nat.le_refl _) (by omega) (by simp) (by intro x hx; cases hx)
  refine Ev.step (f := fun k => (tree_Decode.f k s).bind fun bt190 => ((pollardref06_Get.f k s).bind fun bt194 => ((pollardlaw06_awake.f k).bind fun t198 => (if t198 = true then (if bt190.2 = bt194.2 then (pollardlaw06_TreeReads.j1 k s bt190.1 bt194.1 bt194.2 ((bt190.1.length : Int) != (bt194.1.length : Int))) else (pollardlaw06_TreeReads.j1 k s bt190.1 bt194.1 bt194.2 true)) else (pollardlaw06_TreeReads.j1 k s bt190.1 bt194.1 bt194.2 true))))) (fun k => ?_) (Ev.bind h1 (Ev.bind h2 (Ev.bind awake06 ?_)))
  · simp only [pollardlaw06_TreeReads.j0]
  refine Ev.congr (f := fun k => pollardlaw06_TreeReads.j1 k s l (l.map cv) e false) (fun k => ?_) ?_
  · simp
  refine Ev.step (f := fun k => pollardlaw06_TreeReads.l0 k s l (l.map cv) e ((0 : Nat) : Int)) (fun k => ?_) (reads_l0 s l (by omega) e (fun he => ?_) l.length 0 (by omega))
  · simp only [pollardlaw06_TreeReads.j1]
    rw [if_neg (by simp)]
    rfl
  · obtain ⟨j1, j3⟩ := h3 he
    have hj : lines l = s.toList := by rw [j1]; rfl
    obtain ⟨t, t1, t2⟩ := put_eq l (fun x hx => ⟨(j3 x hx).2.1, (j3 x hx).2.2.1⟩) (by rw [hj, toList_length]; omega)
    exact ⟨t, t1, by rw [t2, hj]⟩

theorem TreeReads : pollardlaw06_TreeReads.Pure := by
  intro s hs
  refine Ev.rounds (g := fun k => pollardlaw06_TreeReads.f k s) ?_
  unfold pollardlaw06_TreeReads.f
  by_cases h : (s.size : Int) > 3000
  · refine Ev.congr (f := fun k => pollardlaw06_TreeReads.j0 k (s.extract 0 3000)) (fun k => ?_) (reads_f _ (by rw [ByteArray.size_extract]; omega))
    rw [if_pos h, if_pos (by omega), if_pos (by omega)]
  · exact Ev.congr (fun k => if_neg h) (reads_f s (by omega))
end Go.Proofs.Ytopdlgdacbonpaa.Pure
