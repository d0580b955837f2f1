/- One ref set, and why an update may not be: what the program and the reference come to; in plain Lean. -/
import Derived.Test.YtgepbdkbleapaaaPl13g
import Derived.Test.YtgepbdkbleapaaaMx6
import Derived.Test.YtgepbdkbleapaaaMx17
import Derived.Test.YtgepbdkbleapaaaMx12
import Derived.Test.YtgepbdkbleapaaaMx11
import Derived.Test.YtgepbdkbleapaaaMx13
import Derived.Test.YtgepbdkbleapaaaMx9
namespace Go.Proofs.Ytgepbdkbleapaaa.Pl
set_option linter.unusedVariables false
set_option linter.unusedSimpArgs false
open Go.RowKit Go.Proofs.Ytgepbdkbleapaaa.M Go.Proofs.YtgepbdkbleapaaaW.PrintWords Go.Proofs.YtgepbdkbleapaaaW.PrintLast

/-- One ref set, or gone. -/
def setS (n id : ByteArray) (L : List Rf) : List Rf :=
  if isAt n L = true then (if id.toList = ([] : List UInt8) then L.take (pos n L) ++ L.drop (pos n L + 1) else L.take (pos n L) ++ (⟨(rd_T50 L ((pos n L : Nat) : Int)).f0, id⟩ : Rf) :: L.drop (pos n L + 1))
  else (if id.toList = ([] : List UInt8) then L else L.take (pos n L) ++ (⟨n, id⟩ : Rf) :: L.drop (pos n L))
theorem isAt_lt {n : ByteArray} {L : List Rf} (h : isAt n L = true) : pos n L < L.length := by
  unfold isAt at h
  rcases Nat.lt_or_ge (pos n L) L.length with h1 | h1
  · exact h1
  · rw [List.getElem?_eq_none h1] at h
    cases h
theorem set_prog (h n id : ByteArray) (L : List Rf) (hL : L.length ≤ 1000) (hs : srt L) : Ev (fun k => refs_set.f k h L n id) (h, setS n id L) := by
  unfold refs_set.f
  refine Ev.bind (place_f n L hL hs) ?_
  have hp := pos_le n L
  refine Ev.congr (fun k => if_pos ⟨by omega, by omega, by dsimp only; omega⟩) ?_
  unfold setS
  dsimp only
  by_cases c : isAt n L = true
  · have hlt := isAt_lt c
    simp only [if_pos c, if_pos (show ((pos n L : Nat) : Int) < (L.length : Int) by omega), Int.toNat_natCast]
    by_cases c2 : id.toList = ([] : List UInt8)
    · simp only [if_pos c2]
      exact Ev.now _
    · simp only [if_neg c2]
      exact Ev.now _
  · simp only [if_neg c, Int.toNat_natCast]
    by_cases c2 : id.toList = ([] : List UInt8)
    · simp only [if_pos c2]
      exact Ev.now _
    · simp only [if_neg c2]
      exact Ev.now _
theorem setS_nil (n id : ByteArray) : setS n id [] = if id.toList = ([] : List UInt8) then [] else [(⟨n, id⟩ : Rf)] := by
  unfold setS
  rw [if_neg (by simp [isAt, pos])]
  rfl
theorem rd_cons (x : Rf) (l : List Rf) (i : Nat) (h : i < l.length) : rd_T50 (x :: l) ((i + 1 : Nat) : Int) = rd_T50 l (i : Int) := by
  rw [rd_at l i h, rd_at (x :: l) (i + 1) (by rw [List.length_cons]; omega)]
  rfl
theorem setS_less (n id : ByteArray) (x : Rf) (l : List Rf) (h : Op.bytesLess x.f0.toList n.toList = true) : setS n id (x :: l) = x :: setS n id l := by
  have hp : pos n (x :: l) = pos n l + 1 := by rw [pos, if_pos h]
  have hi : isAt n (x :: l) = isAt n l := by unfold isAt; rw [hp, List.getElem?_cons_succ]
  unfold setS
  rw [hp, hi]
  by_cases c : isAt n l = true
  · rw [if_pos c, if_pos c, rd_cons x l _ (isAt_lt c), List.take_succ_cons, List.drop_succ_cons]
    by_cases c2 : id.toList = ([] : List UInt8)
    · rw [if_pos c2, if_pos c2]; rfl
    · rw [if_neg c2, if_neg c2]; rfl
  · rw [if_neg c, if_neg c, List.take_succ_cons, List.drop_succ_cons]
    by_cases c2 : id.toList = ([] : List UInt8)
    · rw [if_pos c2, if_pos c2]
    · rw [if_neg c2, if_neg c2]; rfl
theorem setS_stop (n id : ByteArray) (x : Rf) (l : List Rf) (h : ¬ Op.bytesLess x.f0.toList n.toList = true) :
    setS n id (x :: l) = if x.f0.toList = n.toList then (if id.toList = ([] : List UInt8) then l else (⟨n, id⟩ : Rf) :: l) else (if id.toList = ([] : List UInt8) then x :: l else (⟨n, id⟩ : Rf) :: x :: l) := by
  have hp : pos n (x :: l) = 0 := by rw [pos, if_neg h]
  have hi : isAt n (x :: l) = decide (x.f0.toList = n.toList) := by unfold isAt; rw [hp, List.getElem?_cons_zero]
  unfold setS
  rw [hp, hi]
  by_cases c : x.f0.toList = n.toList
  · rw [if_pos (decide_eq_true c), if_pos c]
    have e : (rd_T50 (x :: l) ((0 : Nat) : Int)).f0 = n := by
      rw [rd_at (x :: l) 0 (by rw [List.length_cons]; omega)]
      exact ba_ext c
    rw [e]
    rfl
  · rw [if_neg (by rw [decide_eq_false c]; simp), if_neg c]
    rfl
theorem setS_len (n id : ByteArray) : ∀ L : List Rf, (setS n id L).length ≤ L.length + 1
  | [] => by rw [setS_nil]; split <;> simp
  | x :: l => by
    have ih := setS_len n id l
    by_cases h : Op.bytesLess x.f0.toList n.toList = true
    · rw [setS_less n id x l h, List.length_cons, List.length_cons]; omega
    · rw [setS_stop n id x l h]
      split <;> split <;> simp only [List.length_cons] <;> omega
theorem less_of (a b : List UInt8) (h1 : ¬ Op.bytesLess a b = true) (h2 : ¬ a = b) : Op.bytesLess b a = true := by
  have := less_turn a b
  rw [Bool.eq_false_iff.mpr h1, beq_eq_false_iff_ne.mpr h2] at this
  simpa using this.symm
theorem setS_mem (n id : ByteArray) : ∀ (L : List Rf) (y : Rf), y ∈ setS n id L → y ∈ L ∨ y.f0 = n
  | [], y, h => by
    rw [setS_nil] at h
    split at h
    · simp at h
    · right
      rw [List.mem_singleton.mp h]
  | x :: l, y, h => by
    by_cases c : Op.bytesLess x.f0.toList n.toList = true
    · rw [setS_less n id x l c] at h
      rcases List.mem_cons.mp h with h | h
      · exact .inl (h ▸ List.mem_cons_self ..)
      · rcases setS_mem n id l y h with h | h
        · exact .inl (List.mem_cons_of_mem _ h)
        · exact .inr h
    · rw [setS_stop n id x l c] at h
      split at h <;> split at h
      · exact .inl (List.mem_cons_of_mem _ h)
      · rcases List.mem_cons.mp h with h | h
        · exact .inr (by rw [h])
        · exact .inl (List.mem_cons_of_mem _ h)
      · exact .inl h
      · rcases List.mem_cons.mp h with h | h
        · exact .inr (by rw [h])
        · exact .inl h
theorem setS_srt (n id : ByteArray) : ∀ L : List Rf, srt L → srt (setS n id L)
  | [], _ => by
    rw [setS_nil]
    split
    · exact List.Pairwise.nil
    · exact List.pairwise_singleton ..
  | x :: l, hs => by
    obtain ⟨h1, h2⟩ := List.pairwise_cons.mp hs
    by_cases c : Op.bytesLess x.f0.toList n.toList = true
    · rw [setS_less n id x l c]
      refine List.Pairwise.cons (fun y hy => ?_) (setS_srt n id l h2)
      rcases setS_mem n id l y hy with hy | hy
      · exact h1 y hy
      · rw [hy]; exact c
    · rw [setS_stop n id x l c]
      split
      · rename_i e
        split
        · exact h2
        · exact List.Pairwise.cons (fun y hy => by dsimp only; rw [← e]; exact h1 y hy) h2
      · rename_i e
        have hl := less_of _ _ c e
        split
        · exact hs
        · refine List.Pairwise.cons (fun y hy => ?_) hs
          rcases List.mem_cons.mp hy with rfl | hy
          · exact hl
          · exact less_trans _ _ _ hl (h1 y hy)
theorem snocR (l : List Rf) (x : Rf) : l.map toR ++ [toR x] = (l ++ [x]).map toR := by rw [List.map_append]; rfl
theorem set_rest (h n id : ByteArray) (L : List Rf) (hL : L.length ≤ 1000) : ∀ (m i : Nat) (acc : List Rf), L.length - i = m → i ≤ L.length → acc.length ≤ 2000 + i → (∀ y ∈ L.drop i, ¬ y.f0.toList = n.toList) →
    Ev (fun k => pollardref13_set.l0 k n id (acc.map toR) true (i : Int) h (L.map toR)) (h, (acc ++ L.drop i).map toR) := by
  intro m
  induction m with
  | zero =>
    intro i acc hm hi ha hy
    rw [List.drop_eq_nil_of_le (by omega), List.append_nil]
    refine Ev.step (f := fun _ => some (h, acc.map toR)) (fun k => ?_) (Ev.now _)
    simp only [pollardref13_set.l0, List.length_map]
    rw [if_neg (by omega), if_pos (by trivial)]
  | succ m ih =>
    intro i acc hm hi ha hy
    have hlt : i < L.length := by omega
    rw [List.drop_eq_getElem_cons hlt] at hy ⊢
    have h2 := ih (i + 1) (acc ++ [L[i]'hlt]) (by omega) (by omega) (by rw [List.length_append, List.length_singleton]; omega) (fun y hy2 => hy y (List.mem_cons_of_mem _ hy2))
    have hx := hy _ (List.mem_cons_self ..)
    have r0 := rd_at' L i hlt
    rw [List.append_assoc, List.singleton_append, ← snocR] at h2
    refine Ev.step (f := fun k => pollardref13_set.j1 k n id (acc.map toR) true (i : Int) false h (L.map toR) (L[i]'hlt).f0 (L[i]'hlt).f1) (fun k => ?_) (Ev.step (fun k => ?_) h2)
    · simp only [pollardref13_set.l0, List.length_map]
      rw [if_pos (by omega), if_pos (by omega), if_pos (by trivial), r0]
      rfl
    · simp only [pollardref13_set.j1, List.length_map]
      rw [if_neg (by simp), if_neg hx, if_pos (by omega), w13 (by omega)]
      rfl
theorem set_ref (h n id : ByteArray) (L : List Rf) (hL : L.length ≤ 1000) (hs : srt L) : ∀ (m i : Nat) (acc : List Rf), L.length - i = m → i ≤ L.length → acc.length ≤ 1000 + i →
    Ev (fun k => pollardref13_set.l0 k n id (acc.map toR) (id.toList == ([] : List UInt8)) (i : Int) h (L.map toR)) (h, (acc ++ setS n id (L.drop i)).map toR) := by
  intro m
  induction m with
  | zero =>
    intro i acc hm hi ha
    rw [List.drop_eq_nil_of_le (by omega), setS_nil]
    by_cases c : id.toList = ([] : List UInt8)
    · rw [if_pos c, List.append_nil]
      have cb : (id.toList == ([] : List UInt8)) = true := beq_iff_eq.mpr c
      refine Ev.step (f := fun _ => some (h, acc.map toR)) (fun k => ?_) (Ev.now _)
      simp only [pollardref13_set.l0, List.length_map]
      rw [if_neg (by omega), if_pos cb]
    · rw [if_neg c, ← snocR]
      have cb : (id.toList == ([] : List UInt8)) = false := beq_eq_false_iff_ne.mpr c
      refine Ev.step (f := fun _ => some (h, acc.map toR ++ [toR ⟨n, id⟩])) (fun k => ?_) (Ev.now _)
      simp only [pollardref13_set.l0, List.length_map]
      rw [if_neg (by omega), if_neg (by rw [cb]; simp), if_pos (by omega)]
      rfl
  | succ m ih =>
    intro i acc hm hi ha
    have hlt : i < L.length := by omega
    have r0 := rd_at' L i hlt
    have hrest : ¬ Op.bytesLess (L[i]'hlt).f0.toList n.toList = true → ∀ y ∈ L.drop (i + 1), ¬ y.f0.toList = n.toList := by
      intro hc y hy e
      have hs2 : srt (L.drop i) := List.Pairwise.drop hs
      rw [List.drop_eq_getElem_cons hlt] at hs2
      have := (List.pairwise_cons.mp hs2).1 y hy
      rw [e] at this
      exact hc this
    have hadd : ∀ (b : Bool) (ac : List Rf) (x : Rf), True := fun _ _ _ => trivial
    rw [List.drop_eq_getElem_cons hlt]
    by_cases c : Op.bytesLess (L[i]'hlt).f0.toList n.toList = true
    · have h2 := ih (i + 1) (acc ++ [L[i]'hlt]) (by omega) (by omega) (by rw [List.length_append, List.length_singleton]; omega)
      rw [setS_less n id _ _ c]
      rw [List.append_assoc, List.singleton_append, ← snocR] at h2
      have hx : ¬ (L[i]'hlt).f0.toList = n.toList := fun e => by rw [e, less_irrefl] at c; cases c
      refine Ev.step (f := fun k => pollardref13_set.j1 k n id (acc.map toR) (id.toList == ([] : List UInt8)) (i : Int) false h (L.map toR) (L[i]'hlt).f0 (L[i]'hlt).f1) (fun k => ?_) (Ev.step (fun k => ?_) h2)
      · simp only [pollardref13_set.l0, List.length_map]
        rw [if_pos (by omega), if_pos (by omega), r0]
        have e : (!Op.bytesLess (toR (L[i]'hlt)).f0.toList n.toList) = false := by rw [show (toR (L[i]'hlt)).f0 = (L[i]'hlt).f0 from rfl, c]; rfl
        rw [e]
        exact ite_self _
      · simp only [pollardref13_set.j1, List.length_map]
        rw [if_neg (by simp), if_neg hx, if_pos (by omega), w13 (by omega)]
        rfl
    · rw [setS_stop n id _ _ c]
      have hr := hrest c
      have eb : (!Op.bytesLess (toR (L[i]'hlt)).f0.toList n.toList) = true := by rw [show (toR (L[i]'hlt)).f0 = (L[i]'hlt).f0 from rfl, Bool.eq_false_iff.mpr c]; rfl
      by_cases c2 : id.toList = ([] : List UInt8)
      · have cb : (id.toList == ([] : List UInt8)) = true := beq_iff_eq.mpr c2
        rw [cb]
        by_cases c3 : (L[i]'hlt).f0.toList = n.toList
        · rw [if_pos c3, if_pos c2]
          have h2 := set_rest h n id L hL (L.length - (i + 1)) (i + 1) acc rfl (by omega) (by omega) hr
          refine Ev.step (f := fun k => pollardref13_set.j1 k n id (acc.map toR) true (i : Int) false h (L.map toR) (L[i]'hlt).f0 (L[i]'hlt).f1) (fun k => ?_) (Ev.step (fun k => ?_) h2)
          · simp only [pollardref13_set.l0, List.length_map]
            rw [if_pos (by omega), if_pos (by omega), if_pos (by trivial), r0]
            rfl
          · simp only [pollardref13_set.j1, List.length_map]
            rw [if_neg (by simp), if_pos c3, w13 (by omega)]
        · rw [if_neg c3, if_pos c2]
          have h2 := set_rest h n id L hL (L.length - (i + 1)) (i + 1) (acc ++ [L[i]'hlt]) rfl (by omega) (by rw [List.length_append, List.length_singleton]; omega) hr
          rw [List.append_assoc, List.singleton_append, ← snocR] at h2
          refine Ev.step (f := fun k => pollardref13_set.j1 k n id (acc.map toR) true (i : Int) false h (L.map toR) (L[i]'hlt).f0 (L[i]'hlt).f1) (fun k => ?_) (Ev.step (fun k => ?_) h2)
          · simp only [pollardref13_set.l0, List.length_map]
            rw [if_pos (by omega), if_pos (by omega), if_pos (by trivial), r0]
            rfl
          · simp only [pollardref13_set.j1, List.length_map]
            rw [if_neg (by simp), if_neg c3, if_pos (by omega), w13 (by omega)]
            rfl
      · have cb : (id.toList == ([] : List UInt8)) = false := beq_eq_false_iff_ne.mpr c2
        rw [cb]
        have go : ∀ (R : List Rf), Ev (fun k => if (L[i]'hlt).f0.toList = n.toList then (pollardref13_set.l0 k n id ((acc ++ [(⟨n, id⟩ : Rf)]).map toR) true ((i + 1 : Nat) : Int) h (L.map toR)) else (pollardref13_set.l0 k n id ((acc ++ [(⟨n, id⟩ : Rf)]).map toR ++ [toR (L[i]'hlt)]) true ((i + 1 : Nat) : Int) h (L.map toR))) (h, R.map toR) →
            Ev (fun k => pollardref13_set.l0 k n id (acc.map toR) false (i : Int) h (L.map toR)) (h, R.map toR) := by
          intro R hR
          refine Ev.step (f := fun k => pollardref13_set.j1 k n id (acc.map toR) false (i : Int) true h (L.map toR) (L[i]'hlt).f0 (L[i]'hlt).f1) (fun k => ?_) (Ev.step (fun k => ?_) hR)
          · simp only [pollardref13_set.l0, List.length_map]
            rw [if_pos (by omega), if_pos (by omega), if_neg (by simp), r0, eb]
            rfl
          · simp only [pollardref13_set.j1, List.length_map]
            rw [if_pos (by trivial), if_pos (by omega), Option.bind_some, w13 (by omega)]
            have e3 : acc.map toR ++ [(⟨n, id⟩ : Rg)] = (acc ++ [(⟨n, id⟩ : Rf)]).map toR := snocR acc ⟨n, id⟩
            rw [e3, if_pos (show ((acc ++ [(⟨n, id⟩ : Rf)]).map toR).length < 4398046511104 by rw [List.length_map, List.length_append, List.length_singleton]; omega)]
            rfl
        by_cases c3 : (L[i]'hlt).f0.toList = n.toList
        · rw [if_pos c3, if_neg c2]
          have h2 := set_rest h n id L hL (L.length - (i + 1)) (i + 1) (acc ++ [(⟨n, id⟩ : Rf)]) rfl (by omega) (by rw [List.length_append, List.length_singleton]; omega) hr
          rw [List.append_assoc, List.singleton_append] at h2
          exact go _ (Ev.congr (fun k => if_pos c3) h2)
        · rw [if_neg c3, if_neg c2]
          have h2 := set_rest h n id L hL (L.length - (i + 1)) (i + 1) (acc ++ [(⟨n, id⟩ : Rf)] ++ [L[i]'hlt]) rfl (by omega) (by rw [List.length_append, List.length_append, List.length_singleton, List.length_singleton]; omega) hr
          rw [← snocR, List.append_assoc, List.append_assoc, List.singleton_append, List.singleton_append] at h2
          exact go _ (Ev.congr (fun k => if_neg c3) h2)
theorem set_refF (h n id : ByteArray) (L : List Rf) (hL : L.length ≤ 1000) (hs : srt L) : Ev (fun k => pollardref13_set.f k h (L.map toR) n id) (h, (setS n id L).map toR) := by
  have := set_ref h n id L hL hs L.length 0 [] (by omega) (by omega) (by simp)
  rw [List.drop_zero, List.nil_append] at this
  exact this
end Go.Proofs.Ytgepbdkbleapaaa.Pl
