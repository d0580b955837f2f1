/- Which refs may be: what the program and the reference come to; in plain Lean. -/
import Derived.Test.YtgepbdkbleapaaaPl13r
import Derived.Test.YtgepbdkbleapaaaPlBytes
import Derived.Test.YtgepbdkbleapaaaMx3
import Derived.Test.YtgepbdkbleapaaaMx9
import Derived.Test.YtgepbdkbleapaaaMx2
import Derived.Test.YtgepbdkbleapaaaMx16
import Derived.Test.YtgepbdkbleapaaaMx15
namespace Go.Proofs.Ytgepbdkbleapaaa.Pl
set_option linter.unusedVariables false
set_option linter.unusedSimpArgs false
open Go.RowKit Go.Proofs.Ytgepbdkbleapaaa.M Go.Proofs.YtgepbdkbleapaaaW.PrintWords Go.Proofs.YtgepbdkbleapaaaW.PrintLast

theorem w13 {n : Nat} (h : n ≤ 100000000) : wrap64 ((n : Int) + 1) = ((n + 1 : Nat) : Int) := (w64 (by omega) (by omega)).trans (by omega)
theorem w13p {n : Nat} (h : n ≤ 100000000) : wrap64 (((n + 1 : Nat) : Int) - 1) = (n : Int) := (w64 (by omega) (by omega)).trans (by omega)
abbrev Rf := S50
abbrev Rg := S61
def toR (x : Rf) : Rg := ⟨x.f0, x.f1⟩
theorem rd_at (L : List Rf) (i : Nat) (h : i < L.length) : rd_T50 L (i : Int) = L[i]'h := by
  unfold rd_T50
  rw [Int.toNat_natCast, List.getD, List.getElem?_eq_getElem h, Option.getD_some]
theorem rd_at' (L : List Rf) (i : Nat) (h : i < L.length) : rd_T61 (L.map toR) (i : Int) = toR (L[i]'h) := by
  unfold rd_T61
  rw [Int.toNat_natCast, List.getD, List.getElem?_eq_getElem (by rw [List.length_map]; exact h), Option.getD_some, List.getElem_map]
theorem cut_prog (h : ByteArray) (L : List Rf) : ∃ M, pollardlaw13_cut.f h L = some (h, M) ∧ M.length ≤ 260 ∧ ∀ x ∈ M, x ∈ L := by
  unfold pollardlaw13_cut.f
  by_cases c : (L.length : Int) > 260
  · refine ⟨L.take 260, by rw [if_pos c, if_pos (by omega)], by rw [List.length_take]; omega, fun x hx => List.mem_of_mem_take hx⟩
  · exact ⟨L, by rw [if_neg c], by omega, fun x hx => hx⟩
theorem refs_l0 (h : ByteArray) (L : List Rf) (hL : L.length ≤ 1000) : ∀ (n i : Nat), L.length - i = n → i ≤ L.length → Ev (fun k => pollardlaw13_Ref.l0 k (i : Int) h L h ((L.take i).map toR)) (h, L.map toR) := by
  intro n
  induction n with
  | zero =>
    intro i hn hi
    obtain rfl : i = L.length := by omega
    refine Ev.step (f := fun _ => some (h, L.map toR)) (fun k => ?_) (Ev.now _)
    simp only [pollardlaw13_Ref.l0]
    rw [if_neg (by omega), List.take_length]
  | succ n ih =>
    intro i hn hi
    have hlt : i < L.length := by omega
    have h2 := ih (i + 1) (by omega) (by omega)
    have e : (L.take (i + 1)).map toR = (L.take i).map toR ++ [(⟨(L[i]'hlt).f0, (L[i]'hlt).f1⟩ : Rg)] := by
      rw [List.take_add_one, List.getElem?_eq_getElem hlt, List.map_append]
      rfl
    rw [e] at h2
    refine Ev.step (fun k => ?_) h2
    simp only [pollardlaw13_Ref.l0]
    rw [if_pos (by omega), if_pos (by omega), if_pos (by rw [List.length_map, List.length_take]; omega), rd_at L i hlt, w13 (by omega)]
theorem ref_f (h : ByteArray) (L : List Rf) (hL : L.length ≤ 1000) : Ev (fun k => pollardlaw13_Ref.f k h L) (h, L.map toR) := refs_l0 h L hL L.length 0 (by omega) (by omega)

def okA : Option ByteArray → ByteArray → Bool
  | none, _ => true
  | some q, x => Op.bytesLess q.toList x.toList
/-- Why refs may not be, from one on; p: the name of the one ahead. -/
def chkGo : Option ByteArray → List Rf → Int
  | _, [] => 0
  | p, x :: l => if 0 < refK x.f0 then (if (x.f1.size : Int) = 32 then (if okA p x.f0 = true then chkGo (some x.f0) l else 61) else 6) else 50
theorem chkGo_cons (p : Option ByteArray) (x : Rf) (l : List Rf) : chkGo p (x :: l) = if 0 < refK x.f0 then (if (x.f1.size : Int) = 32 then (if okA p x.f0 = true then chkGo (some x.f0) l else 61) else 6) else 50 := rfl
def chk (h : ByteArray) (L : List Rf) : Int := if (L.length : Int) > 256 then 3 else if refK h = 1 then chkGo none L else 50
/-- The name ahead of a place. -/
def ahead (L : List Rf) : Nat → Option ByteArray
  | 0 => none
  | i + 1 => (L[i]?).map (·.f0)
theorem refK_range (s : ByteArray) : refK s = 0 ∨ refK s = 1 ∨ refK s = 2 := by
  unfold refK
  repeat' split
  all_goals simp
theorem chk_l0 (h : ByteArray) (L : List Rf) (hL : L.length ≤ 1000) : ∀ (n i : Nat), L.length - i = n → i ≤ L.length → Ev (fun k => refs_Check.l0 k L (L.length : Int) (i : Int) h L) (chkGo (ahead L i) (L.drop i)) := by
  intro n
  induction n with
  | zero =>
    intro i hn hi
    rw [List.drop_eq_nil_of_le (by omega)]
    refine Ev.step (f := fun _ => some 0) (fun k => ?_) (Ev.now _)
    simp only [refs_Check.l0]
    rw [if_neg (by omega)]
  | succ n ih =>
    intro i hn hi
    have hlt : i < L.length := by omega
    have h2 := ih (i + 1) (by omega) (by omega)
    have ea : ahead L (i + 1) = some (L[i]'hlt).f0 := by show (L[i]?).map (·.f0) = _; rw [List.getElem?_eq_getElem hlt]; rfl
    rw [ea] at h2
    rw [List.drop_eq_getElem_cons hlt]
    have r0 := rd_at L i hlt
    have hp := (ref_prog (L[i]'hlt).f0).1
    by_cases c1 : 0 < refK (L[i]'hlt).f0
    · rw [decide_eq_true c1] at hp
      by_cases c2 : ((L[i]'hlt).f1.size : Int) = 32
      · cases i with
        | zero =>
          rw [show chkGo (ahead L 0) (L[0] :: L.drop (0 + 1)) = chkGo (some L[0].f0) (L.drop (0 + 1)) by rw [chkGo_cons, if_pos c1, if_pos c2]; rfl]
          refine Ev.step (fun k => ?_) h2
          simp only [refs_Check.l0]
          rw [if_pos (by omega), if_pos (by omega), if_pos (by omega), r0, hp, Option.bind_some, if_pos rfl, if_pos c2, if_neg (by omega), w13 (by omega)]
        | succ j =>
          have hj : j < L.length := by omega
          have rj := rd_at L j hj
          have ej : ahead L (j + 1) = some (L[j]'hj).f0 := by show (L[j]?).map (·.f0) = _; rw [List.getElem?_eq_getElem hj]; rfl
          rw [ej]
          by_cases c3 : Op.bytesLess (L[j]'hj).f0.toList (L[j + 1]'hlt).f0.toList = true
          · rw [chkGo_cons, if_pos c1, if_pos c2, if_pos (show okA (some _) _ = true from c3)]
            refine Ev.step (fun k => ?_) h2
            simp only [refs_Check.l0]
            rw [if_pos (by omega), if_pos (by omega), if_pos (by omega), r0, hp, Option.bind_some, if_pos rfl, if_pos c2, if_pos (by omega), w13p (by omega), if_pos (by omega), if_pos (by omega), rj, if_pos c3, w13 (by omega)]
          · rw [chkGo_cons, if_pos c1, if_pos c2, if_neg (show ¬ okA (some _) _ = true from c3)]
            refine Ev.step (f := fun _ => some 61) (fun k => ?_) (Ev.now _)
            simp only [refs_Check.l0]
            rw [if_pos (by omega), if_pos (by omega), if_pos (by omega), r0, hp, Option.bind_some, if_pos rfl, if_pos c2, if_pos (by omega), w13p (by omega), if_pos (by omega), if_pos (by omega), rj, if_neg c3]
      · rw [chkGo_cons, if_pos c1, if_neg c2]
        refine Ev.step (f := fun _ => some 6) (fun k => ?_) (Ev.now _)
        simp only [refs_Check.l0]
        rw [if_pos (by omega), if_pos (by omega), if_pos (by omega), r0, hp, Option.bind_some, if_pos rfl, if_neg c2]
    · rw [decide_eq_false c1] at hp
      rw [chkGo_cons, if_neg c1]
      refine Ev.step (f := fun _ => some 50) (fun k => ?_) (Ev.now _)
      simp only [refs_Check.l0]
      rw [if_pos (by omega), if_pos (by omega), if_pos (by omega), r0, hp, Option.bind_some, if_neg (by simp)]
theorem chk_prog (h : ByteArray) (L : List Rf) : Ev (fun k => refs_Check.f k h L) (chk h L) := by
  unfold refs_Check.f chk
  by_cases c : (L.length : Int) > 256
  · rw [if_pos c]
    exact Ev.congr (fun k => if_pos c) (Ev.now _)
  · rw [if_neg c]
    have hh := (ref_prog h).2
    refine Ev.congr (fun k => if_neg c) ?_
    rw [hh]
    refine Ev.congr (fun k => Option.bind_some _ _) ?_
    by_cases c2 : refK h = 1
    · rw [if_pos c2]
      refine Ev.congr (fun k => if_pos (decide_eq_true c2)) ?_
      exact chk_l0 h L (by omega) L.length 0 (by omega) (by omega)
    · rw [if_neg c2]
      exact Ev.congr (fun k => if_neg (by rw [decide_eq_false c2]; simp)) (Ev.now _)
theorem chk_ref0 (h : ByteArray) (L : List Rf) (hL : L.length ≤ 1000) (hs : ∀ x ∈ L, x.f0.size ≤ 140737488351232) : ∀ (n i : Nat), L.length - i = n → i ≤ L.length → Ev (fun k => pollardref13_Check.l0 k (i : Int) h (L.map toR)) (chkGo (ahead L i) (L.drop i)) := by
  intro n
  induction n with
  | zero =>
    intro i hn hi
    rw [List.drop_eq_nil_of_le (by omega)]
    refine Ev.step (f := fun _ => some 0) (fun k => ?_) (Ev.now _)
    simp only [pollardref13_Check.l0, List.length_map]
    rw [if_neg (by omega)]
  | succ n ih =>
    intro i hn hi
    have hlt : i < L.length := by omega
    have h2 := ih (i + 1) (by omega) (by omega)
    have ea : ahead L (i + 1) = some (L[i]'hlt).f0 := by show (L[i]?).map (·.f0) = _; rw [List.getElem?_eq_getElem hlt]; rfl
    rw [ea] at h2
    rw [List.drop_eq_getElem_cons hlt]
    have r0 := rd_at' L i hlt
    have f0 : (toR (L[i]'hlt)).f0 = (L[i]'hlt).f0 := rfl
    have f1 : (toR (L[i]'hlt)).f1 = (L[i]'hlt).f1 := rfl
    have hp := ref_doc (L[i]'hlt).f0 (hs _ (List.getElem_mem hlt))
    obtain ⟨x, hx⟩ : ∃ x, L[i]'hlt = x := ⟨_, rfl⟩
    have key : ∀ (g : Nat → Option Int) (r : Int), (¬ refK x.f0 = 0 → (x.f1.size : Int) = 32 → Ev g r) → (0 < refK x.f0 → (x.f1.size : Int) = 32 → chkGo (ahead L i) (x :: L.drop (i + 1)) = r) →
        Ev (fun k => (pollardref05_Ref.f k x.f0).bind fun t181 => (if t181 = 0 then (some 50) else (if (x.f1.size : Int) = 32 then g k else (some 6)))) (chkGo (ahead L i) (x :: L.drop (i + 1))) := by
      intro g r hg hr
      rw [hx] at hp
      refine Ev.bind hp ?_
      have hrg := refK_range x.f0
      by_cases c1 : refK x.f0 = 0
      · rw [chkGo_cons, if_neg (by omega)]
        exact Ev.congr (fun k => if_pos c1) (Ev.now _)
      · refine Ev.congr (fun k => if_neg c1) ?_
        by_cases c2 : (x.f1.size : Int) = 32
        · rw [hr (by omega) c2]
          exact Ev.congr (fun k => if_pos c2) (hg c1 c2)
        · rw [chkGo_cons, if_pos (by omega), if_neg c2]
          exact Ev.congr (fun k => if_neg c2) (Ev.now _)
    rw [hx] at r0 f0 f1 h2 ⊢
    cases i with
    | zero =>
      refine Ev.step (fun k => ?_) (key (fun k => pollardref13_Check.l0 k ((0 + 1 : Nat) : Int) h (L.map toR)) _ (fun _ _ => h2) (fun c1 c2 => by rw [chkGo_cons, if_pos c1, if_pos c2]; rfl))
      simp only [pollardref13_Check.l0, List.length_map]
      rw [if_pos (by omega), if_pos (by omega), r0, f0, f1, w13 (by omega)]
      simp only [show ¬ (((0 : Nat) : Int) > 0) by omega, if_false]
    | succ j =>
      have hj : j < L.length := by omega
      have rj := rd_at' L j hj
      have g0 : (toR (L[j]'hj)).f0 = (L[j]'hj).f0 := rfl
      have ej : ahead L (j + 1) = some (L[j]'hj).f0 := by show (L[j]?).map (·.f0) = _; rw [List.getElem?_eq_getElem hj]; rfl
      have tn := less_turn x.f0.toList (L[j]'hj).f0.toList
      by_cases c3 : Op.bytesLess (L[j]'hj).f0.toList x.f0.toList = true
      · rw [c3] at tn
        refine Ev.step (fun k => ?_) (key (fun k => pollardref13_Check.l0 k ((j + 1 + 1 : Nat) : Int) h (L.map toR)) _ (fun _ _ => h2) (fun c1 c2 => by rw [ej, chkGo_cons, if_pos c1, if_pos c2, if_pos (show okA (some _) _ = true from c3)]))
        simp only [pollardref13_Check.l0, List.length_map]
        rw [if_pos (by omega), if_pos (by omega), r0, f0, f1, w13 (by omega), w13p (by omega), rj, g0, tn]
        simp only [show (((j + 1 : Nat) : Int) > 0) by omega, show (0 : Int) ≤ (j : Int) by omega, show (j : Int) < (L.length : Int) by omega, if_true, Bool.not_true, Bool.false_eq_true, if_false]
      · rw [Bool.eq_false_iff.mpr c3] at tn
        refine Ev.step (fun k => ?_) (key (fun k => some 61) _ (fun _ _ => Ev.now _) (fun c1 c2 => by rw [ej, chkGo_cons, if_pos c1, if_pos c2, if_neg (show ¬ okA (some _) _ = true from c3)]))
        simp only [pollardref13_Check.l0, List.length_map]
        rw [if_pos (by omega), if_pos (by omega), r0, f0, f1, w13 (by omega), w13p (by omega), rj, g0, tn]
        simp only [show (((j + 1 : Nat) : Int) > 0) by omega, show (0 : Int) ≤ (j : Int) by omega, show (j : Int) < (L.length : Int) by omega, if_true, Bool.not_false]
theorem chk_ref (h : ByteArray) (L : List Rf) (hh : h.size ≤ 140737488351232) (hs : ∀ x ∈ L, x.f0.size ≤ 140737488351232) : Ev (fun k => pollardref13_Check.f k h (L.map toR)) (chk h L) := by
  unfold pollardref13_Check.f chk
  rw [List.length_map]
  by_cases c : (L.length : Int) > 256
  · rw [if_pos c]
    exact Ev.congr (fun k => if_pos c) (Ev.now _)
  · rw [if_neg c]
    refine Ev.congr (fun k => if_neg c) ?_
    refine Ev.bind (ref_doc h hh) ?_
    by_cases c2 : refK h = 1
    · rw [if_pos c2]
      refine Ev.congr (fun k => if_pos c2) ?_
      exact chk_ref0 h L (by omega) hs L.length 0 (by omega) (by omega)
    · rw [if_neg c2]
      exact Ev.congr (fun k => if_neg c2) (Ev.now _)
/-- The same refs. -/
theorem same_l0 (h : ByteArray) (L : List Rf) (hL : L.length ≤ 1000) : ∀ (n i : Nat), L.length - i = n → i ≤ L.length → Ev (fun k => pollardlaw13_Same.l0 k (i : Int) h L h (L.map toR)) true := by
  intro n
  induction n with
  | zero =>
    intro i hn hi
    refine Ev.step (f := fun _ => some true) (fun k => ?_) (Ev.now _)
    simp only [pollardlaw13_Same.l0, List.length_map]
    rw [if_neg (by omega)]
  | succ n ih =>
    intro i hn hi
    have hlt : i < L.length := by omega
    have h2 := ih (i + 1) (by omega) (by omega)
    have f0 : (toR (L[i]'hlt)).f0 = (L[i]'hlt).f0 := rfl
    have f1 : (toR (L[i]'hlt)).f1 = (L[i]'hlt).f1 := rfl
    refine Ev.step (fun k => ?_) h2
    simp only [pollardlaw13_Same.l0, List.length_map]
    rw [if_pos (by omega), if_pos (by omega), if_pos (by omega), rd_at L i hlt, rd_at' L i hlt, f0, f1, w13 (by omega)]
    simp only [beq_self_eq_true, Bool.not_true, Bool.or_false, Bool.false_eq_true, if_false]
theorem same_f (h : ByteArray) (L : List Rf) (hL : L.length ≤ 1000) : Ev (fun k => pollardlaw13_Same.f k h L h (L.map toR)) true := by
  unfold pollardlaw13_Same.f
  refine Ev.congr (fun k => if_pos rfl) ?_
  refine Ev.step (f := fun k => pollardlaw13_Same.l0 k ((0 : Nat) : Int) h L h (L.map toR)) (fun k => ?_) (same_l0 h L hL L.length 0 (by omega) (by omega))
  simp only [pollardlaw13_Same.j0]
  rw [if_neg (by rw [List.length_map]; simp)]
  rfl
theorem awake13 : Ev (fun k => pollardlaw13_awake.f k) true := Ev.of (fun k => pollardlaw13_awake.mono k) (k := 60) (by decide +kernel)
end Go.Proofs.Ytgepbdkbleapaaa.Pl
