import Derived.Test.YtopdlgdacbonpaaMx11
import Derived.Test.YtopdlgdacbonpaaMx10
import Derived.Test.YtopdlgdacbonpaaPl06e
namespace Go.Proofs.Ytopdlgdacbonpaa.Pure
set_option linter.unusedVariables false
open Go.RowKit Go.Proofs.Ytopdlgdacbonpaa.M Go.Proofs.YtopdlgdacbonpaaW.PrintWords Go.Proofs.YtopdlgdacbonpaaW.PrintLast Go.Proofs.Ytopdlgdacbonpaa.Pl

theorem checks_l0 (l : List (S36)) (hl : l.length ≤ 1000000) : ∀ (m i : Nat), i + m = l.length → Ev (fun k => pollardlaw06_TreeChecks.l0 k l l (i : Int)) true := by
  intro m
  induction m with
  | zero =>
    intro i hi
    refine Ev.step (f := fun _ => some true) (fun k => ?_) (Ev.now _)
    simp only [pollardlaw06_TreeChecks.l0]
    rw [if_neg (by omega)]
  | succ m ih =>
    intro i hi
    refine Ev.step (f := fun k => pollardlaw06_TreeChecks.l0 k l l ((i + 1 : Nat) : Int)) (fun k => ?_) (ih (i + 1) (by omega))
    have w1 : wrap64 ((i : Int) + 1) = ((i + 1 : Nat) : Int) := (w64 (by omega) (by omega)).trans (by omega)
    simp only [pollardlaw06_TreeChecks.l0]
    rw [if_pos (by omega), if_pos (by omega), if_pos (by omega), if_neg (by simp), w1]

theorem lines_len2 : ∀ (l : List (S36)), (∀ x ∈ l, Pl.Good x) → (lines l).length ≤ 102 * l.length
  | [], _ => by simp [lines]
  | x :: l, h => by
    have ih := lines_len2 l (fun y hy => h y (by simp [hy]))
    obtain ⟨h1, h2, h3, h4⟩ := h x (by simp)
    have hw : (word x.f1).length ≤ 4 := by
      unfold word
      repeat' split
      all_goals decide
    have hn : x.f0.size ≤ 64 := by
      unfold nameB label_Name.f at h1
      by_cases c : (x.f0.size : Int) > 64
      · rw [if_pos c] at h1
        split at h1 <;> simp at h1
      · omega
    simp only [lines, line, List.length_append, List.length_cons, toList_length]
    rw [h4]
    omega

theorem checks_f (l : List (S36)) (hl : l.length ≤ 258) (hs : Small l) : Ev (fun k => (tree_Check.f k l).bind fun t243 => ((tree_Encode.f k l).bind fun bt244 => ((pollardlaw06_Ref.f k l).bind fun t246 => ((pollardref06_Check.f k t246).bind fun t249 => ((pollardlaw06_awake.f k).bind fun t250 => (if t250 = true then (if t243 = t249 then (pollardlaw06_TreeChecks.j0 k l bt244.1 t249 (bt244.2 != t243)) else (pollardlaw06_TreeChecks.j0 k l bt244.1 t249 true)) else (pollardlaw06_TreeChecks.j0 k l bt244.1 t249 true))))))) true := by
  have tc := tcheck l hs
  have rc := rcheck l hs
  have rf := ref_eq l (by omega)
  by_cases hc : chkAll l = 0
  · have hg : ∀ x ∈ l, Pl.Good x := by
      have h := hc
      unfold chkAll at h
      split at h
      · omega
      · exact chk_good l none h
    have h256 : l.length ≤ 256 := by
      have h := hc
      unfold chkAll at h
      split at h
      · omega
      · omega
    have hm : ∀ x ∈ l, 1 ≤ x.f1 ∧ x.f1 ≤ 3 := fun x hx => ⟨(hg x hx).2.1, (hg x hx).2.2.1⟩
    have hlen := lines_len2 l hg
    obtain ⟨t, te, tl⟩ := tencode l hs (by omega) (fun _ => hg)
    obtain ⟨u, up, ul⟩ := put_eq l hm (by omega)
    have hut : u = t := ba_ext (ul.trans tl.symm)
    subst hut
    have td := tdecode l u [] hg ul (by rw [← toList_length, ul]; omega) (by simp) (by intro x hx; cases hx) hs
    rw [List.nil_append, List.length_nil, Nat.zero_add, if_neg (by omega), if_pos hc] at td
    rw [if_pos hc] at te
    refine Ev.bind tc (Ev.bind te (Ev.bind rf (Ev.bind rc (Ev.bind awake06 ?_))))
    refine Ev.congr (f := fun k => pollardlaw06_TreeChecks.j0 k l u (chkAll l) false) (fun k => ?_) ?_
    · rw [if_pos rfl, if_pos rfl, hc]
      rfl
    refine Ev.step (f := fun k => (tree_Decode.f k u).bind fun bt251 => ((pollardlaw06_Ref.f k l).bind fun t255 => ((pollardref06_Put.f t255).bind fun t258 => (if u.toList = t258.toList then (if bt251.2 = 0 then (pollardlaw06_TreeChecks.j1 k l bt251.1 ((bt251.1.length : Int) != (l.length : Int))) else (pollardlaw06_TreeChecks.j1 k l bt251.1 true)) else (pollardlaw06_TreeChecks.j1 k l bt251.1 true))))) (fun k => ?_) (Ev.bind td (Ev.bind rf ?_))
    · simp only [pollardlaw06_TreeChecks.j0]
      rw [if_neg (by simp), if_pos hc]
    · rw [up]
      refine Ev.bind (Ev.now u) ?_
      refine Ev.congr (f := fun k => pollardlaw06_TreeChecks.j1 k l l false) (fun k => ?_) ?_
      · rw [if_pos rfl, if_pos rfl, bne_self_eq_false]
      · refine Ev.step (f := fun k => pollardlaw06_TreeChecks.l0 k l l ((0 : Nat) : Int)) (fun k => ?_) (checks_l0 l (by omega) l.length 0 (by omega))
        simp only [pollardlaw06_TreeChecks.j1]
        rw [if_neg (by simp)]
        rfl
  · have te : Ev (fun k => tree_Encode.f k l) (⟨#[]⟩, chkAll l) := by
      unfold tree_Encode.f
      refine Ev.bind tc ?_
      rw [if_neg hc]
      exact Ev.now _
    refine Ev.bind tc (Ev.bind te (Ev.bind rf (Ev.bind rc (Ev.bind awake06 ?_))))
    refine Ev.congr (f := fun k => pollardlaw06_TreeChecks.j0 k l ⟨#[]⟩ (chkAll l) false) (fun k => ?_) ?_
    · rw [if_pos rfl, if_pos rfl, bne_self_eq_false]
    refine Ev.step (f := fun _ => some true) (fun k => ?_) (Ev.now _)
    simp only [pollardlaw06_TreeChecks.j0]
    rw [if_neg (by simp), if_neg hc, toList_nil]
    rfl

theorem TreeChecks : ∀ (l0 : List S36), l0.length * Try.prog.bytesOf 36 ≤ 140737488351232 → (∀ x ∈ l0, (x.f0.size ≤ 140737488351232) ∧ ((Lit.int .i64 x.f1).wf = true) ∧ (x.f2.size ≤ 140737488351232)) → ∃ k, pollardlaw06_TreeChecks.f k l0 = some true := by
  intro l _ h
  refine Ev.rounds (g := fun k => pollardlaw06_TreeChecks.f k l) ?_
  unfold pollardlaw06_TreeChecks.f pollardlaw06_cut.f
  have hs : Small l := fun x hx => (h x hx).1
  by_cases c : (l.length : Int) > 258
  · rw [if_pos c, if_pos (by omega)]
    refine Ev.bind (Ev.now _) (checks_f (l.take 258) (by rw [List.length_take]; omega) (fun x hx => hs x (List.mem_of_mem_take hx)))
  · rw [if_neg c]
    exact Ev.bind (Ev.now _) (checks_f l (by omega) hs)
end Go.Proofs.Ytopdlgdacbonpaa.Pure
