/- Updates are all done, or none, or refused for the first reason; what was handed in stays as it was. Conditions: none. -/
import Derived.Test.YtgepbdkbleapaaaMx18
import Derived.Test.YtgepbdkbleapaaaPl13x
namespace Go.Proofs.Ytgepbdkbleapaaa.Pure
set_option linter.unusedVariables false
open Go.RowKit Go.Proofs.Ytgepbdkbleapaaa.M Go.Proofs.YtgepbdkbleapaaaW.PrintWords Go.Proofs.YtgepbdkbleapaaaW.PrintLast Go.Proofs.Ytgepbdkbleapaaa.Pl

theorem apply_j3 (h : ByteArray) (hh : h.size ≤ 140737488351232) (M : List Rf) (hM : M.length ≤ 260) (hs : ∀ x ∈ M, x.f0.size ≤ 140737488351232) (us : List Up) (hu : us.length ≤ 30) (hsz : ∀ u ∈ us, u.f0.size ≤ 140737488351232) (ws : List Wy) (hw : ws.length ≤ 30) :
    Ev (fun k => pollardlaw13_RefsApply.j3 k us (us.map toU) h M h (M.map toR) ws) true := by
  obtain ⟨e1, e2⟩ := appF_len ws h M us (by omega) (by omega)
  have g1 := apply_prog ws (by omega) h M us (by omega)
  have g2 := apply_ref ws (by omega) h hh M hs us (by omega) hsz
  refine Ev.step (f := fun k => (refs_ApplyW.f k h M us ws).bind fun bt265 => ((pollardref13_Apply.f k h (M.map toR) (us.map toU) ws).bind fun bt271 => ((pollardlaw13_awake.f k).bind fun t277 => (if t277 = true then (if bt265.2.2 = bt271.2.2 then ((pollardlaw13_Same.f k bt265.1 bt265.2.1 bt271.1 bt271.2.1).bind fun t278 => (if t278 = true then ((pollardlaw13_Same.f k h M h (M.map toR)).bind fun t279 => (some t279)) else (none))) else (none)) else (none))))) (fun k => by simp only [pollardlaw13_RefsApply.j3]) ?_
  refine Ev.bind g1 ?_
  refine Ev.bind g2 ?_
  refine Ev.bind awake13 ?_
  refine Ev.congr (fun k => if_pos rfl) ?_
  refine Ev.congr (fun k => if_pos rfl) ?_
  refine Ev.bind (a := true) (same_f _ _ (by omega)) ?_
  refine Ev.congr (fun k => if_pos rfl) ?_
  refine Ev.bind (same_f h M (by omega)) ?_
  exact Ev.now _
theorem apply_l1 (h : ByteArray) (M : List Rf) (us : List Up) (ws : List Wy) (hj : Ev (fun k => pollardlaw13_RefsApply.j3 k us (us.map toU) h M h (M.map toR) (ws.take 30)) true) : ∀ (n i : Nat), 30 - i = n → i ≤ 30 → i ≤ ws.length →
    Ev (fun k => pollardlaw13_RefsApply.l1 k ws us (us.map toU) (i : Int) h M h (M.map toR) (ws.take i)) true := by
  intro n
  induction n with
  | zero =>
    intro i hn hi hl
    obtain rfl : i = 30 := by omega
    refine Ev.step (fun k => ?_) hj
    simp only [pollardlaw13_RefsApply.l1]
    by_cases c : ((30 : Nat) : Int) < (ws.length : Int)
    · rw [if_pos c, if_neg (by omega)]
    · rw [if_neg c]
  | succ n ih =>
    intro i hn hi hl
    by_cases c : i < ws.length
    · have g := ih (i + 1) (by omega) (by omega) (by omega)
      have et : ws.take (i + 1) = ws.take i ++ [ws[i]'c] := by rw [List.take_add_one, List.getElem?_eq_getElem c]; rfl
      rw [et] at g
      refine Ev.step (fun k => ?_) g
      simp only [pollardlaw13_RefsApply.l1]
      rw [if_pos (by omega), if_pos (by omega), if_pos (by omega), Option.bind_some, if_pos (by rw [List.length_take]; simp only [List.length_cons, List.length_nil]; omega), rdW ws i c, w13 (by omega)]
    · have e : ws.take i = ws.take 30 := by rw [List.take_of_length_le (by omega), List.take_of_length_le (by omega)]
      rw [e]
      refine Ev.step (fun k => ?_) hj
      simp only [pollardlaw13_RefsApply.l1]
      rw [if_neg (by omega)]
theorem apply_l0 (h : ByteArray) (M : List Rf) (us : List Up) (ws : List Wy) (hj : Ev (fun k => pollardlaw13_RefsApply.j1 k ws (us.take 30) ((us.take 30).map toU) h M h (M.map toR)) true) : ∀ (n i : Nat), 30 - i = n → i ≤ 30 → i ≤ us.length →
    Ev (fun k => pollardlaw13_RefsApply.l0 k us ws (us.take i) ((us.take i).map toU) (i : Int) h M h (M.map toR)) true := by
  intro n
  induction n with
  | zero =>
    intro i hn hi hl
    obtain rfl : i = 30 := by omega
    refine Ev.step (fun k => ?_) hj
    simp only [pollardlaw13_RefsApply.l0]
    by_cases c : ((30 : Nat) : Int) < (us.length : Int)
    · rw [if_pos c, if_neg (by omega)]
    · rw [if_neg c]
  | succ n ih =>
    intro i hn hi hl
    by_cases c : i < us.length
    · have g := ih (i + 1) (by omega) (by omega) (by omega)
      have et : us.take (i + 1) = us.take i ++ [us[i]'c] := by rw [List.take_add_one, List.getElem?_eq_getElem c]; rfl
      rw [et, List.map_append] at g
      refine Ev.step (fun k => ?_) g
      simp only [pollardlaw13_RefsApply.l0]
      rw [if_pos (by omega), if_pos (by omega), if_pos (by omega), Option.bind_some, if_pos (by rw [List.length_take]; simp only [List.length_cons, List.length_nil]; omega), Option.bind_some, if_pos (by rw [List.length_map, List.length_take]; simp only [List.length_cons, List.length_nil]; omega), rdU us i c, w13 (by omega)]
      rfl
    · have e : us.take i = us.take 30 := by rw [List.take_of_length_le (by omega), List.take_of_length_le (by omega)]
      rw [e]
      refine Ev.step (fun k => ?_) hj
      simp only [pollardlaw13_RefsApply.l0]
      rw [if_neg (by omega)]
theorem RefsApply (a0 : ByteArray) (L : List Rf) (us : List Up) (ws : List Wy) (h0 : a0.size ≤ 140737488351232) (h1 : ∀ x ∈ L, x.f0.size ≤ 140737488351232 ∧ x.f1.size ≤ 140737488351232) (h2 : ∀ x ∈ us, x.f0.size ≤ 140737488351232) : ∃ k, pollardlaw13_RefsApply.f k a0 L us ws = some true := by
  obtain ⟨M, hcut, hM, hsub⟩ := cut_prog a0 L
  have hs : ∀ x ∈ M, x.f0.size ≤ 140737488351232 := fun x hx => (h1 x (hsub x hx)).1
  have g1 := ref_f a0 M (by omega)
  refine Ev.rounds (g := fun k => pollardlaw13_RefsApply.f k a0 L us ws) ?_
  unfold pollardlaw13_RefsApply.f
  rw [hcut]
  refine Ev.congr (fun k => Option.bind_some _ _) ?_
  refine Ev.bind g1 ?_
  have hj3 := apply_j3 a0 h0 M hM hs (us.take 30) (by rw [List.length_take]; omega) (fun u hu => h2 u (List.mem_of_mem_take hu)) (ws.take 30) (by rw [List.length_take]; omega)
  have hl1 := apply_l1 a0 M (us.take 30) ws hj3 30 0 (by omega) (by omega) (by omega)
  rw [List.take_zero] at hl1
  have hj1 : Ev (fun k => pollardlaw13_RefsApply.j1 k ws (us.take 30) ((us.take 30).map toU) a0 M a0 (M.map toR)) true := Ev.step (fun k => by simp only [pollardlaw13_RefsApply.j1]; rfl) hl1
  have hl0 := apply_l0 a0 M us ws hj1 30 0 (by omega) (by omega) (by omega)
  rw [List.take_zero] at hl0
  exact hl0
end Go.Proofs.Ytgepbdkbleapaaa.Pure
