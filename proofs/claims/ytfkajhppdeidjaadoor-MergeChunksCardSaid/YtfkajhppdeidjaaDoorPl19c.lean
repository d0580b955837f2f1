/- The document's chunks come to the plain list. -/
import Derived.Test.YtfkajhppdeidjaaDoorPl19b
import Derived.Test.YtfkajhppdeidjaaDoorPl19r
import Derived.Test.YtfkajhppdeidjaaDoorMx11
namespace Go.Proofs.YtfkajhppdeidjaaDoor.Pl
set_option linter.unusedVariables false
set_option linter.unusedSimpArgs false
open Go.RowKit Go.Proofs.YtfkajhppdeidjaaDoor.M Go.Proofs.YtfkajhppdeidjaaDoorW.PrintWords Go.Proofs.YtfkajhppdeidjaaDoorW.PrintLast

theorem ev_step {α : Type} {g : Nat → Option α} {r : α} (h : ∃ f : Nat → Option α, (∀ k, g (k + 1) = f k) ∧ Ev f r) : Ev g r := by
  obtain ⟨f, h1, h2⟩ := h
  exact Ev.step h1 h2
/-- A chunk, as the document has it. -/
def asR (c : Chk) : S33 := ⟨c.1, c.2.1, c.2.2.1, c.2.2.2⟩
/-- Pairs, as the document has them. -/
def asD (L : List (Int × Int)) : List S70 := L.map (fun x => (⟨x.1, x.2⟩ : S70))
section
variable {B O T : List ByteArray} {P Q : List (Int × Int)} (hP : P.length ≤ 1000000) (hQ : Q.length ≤ 1000000)
include hP hQ
theorem ref_l1 {out : List S33} {o a b : Nat} (ho : o ≤ 400) (ha : a ≤ 400) (hb : b ≤ 400) (hB : B.length ≤ 400) {R : List S33} :
    ∀ (f n : Nat), B.length < o + n + f → n + f ≤ 1000 → Ev (fun k => pollardref19_Chunks.j3 k B O T (asD P) (asD Q) out (o : Int) (a : Int) (b : Int) ((grow (fun k => pt P k) (fun k => pt Q k) B.length o a b f n : Nat) : Int)) R → Ev (fun k => pollardref19_Chunks.l1 k B O T (asD P) (asD Q) out (o : Int) (a : Int) (b : Int) (n : Int)) R := by
  intro f
  induction f with
  | zero =>
    intro n hf hn h
    refine Ev.step (fun k => ?_) h
    simp only [pollardref19_Chunks.l1]
    rw [w64a (by omega), if_neg (by omega), grow]
  | succ f ih =>
    intro n hf hn h
    rw [grow] at h
    have e1 := Aside0.mk (w64a (m := o) (n := n) (by omega))
    have e2 := Aside0.mk (w64a (m := a) (n := n) (by omega))
    have e3 := Aside0.mk (w64a (m := b) (n := n) (by omega))
    have e4 := Aside0.mk (w64s (n := n) (by omega))
    have x1 := ref_partner P hP ((o + n : Nat) : Int)
    have x2 := ref_partner Q hQ ((o + n : Nat) : Int)
    by_cases c1 : o + n < B.length
    · refine Ev.step (f := fun k => (pollardref19_partner.f k (asD P) ((o + n : Nat) : Int)).bind fun t259 => (if t259 = ((a + n : Nat) : Int) then ((pollardref19_partner.f k (asD Q) ((o + n : Nat) : Int)).bind fun t260 => (if t260 = ((b + n : Nat) : Int) then (pollardref19_Chunks.l1 k B O T (asD P) (asD Q) out (o : Int) (a : Int) (b : Int) ((n + 1 : Nat) : Int)) else (pollardref19_Chunks.j3 k B O T (asD P) (asD Q) out (o : Int) (a : Int) (b : Int) (n : Int)))) else (pollardref19_Chunks.j3 k B O T (asD P) (asD Q) out (o : Int) (a : Int) (b : Int) (n : Int)))) (fun k => ?_) (Ev.bind x1 ?_)
      · simp only [pollardref19_Chunks.l1]
        rw [e1.out, e2.out, e3.out, e4.out, if_pos (by omega)]
      · by_cases c2 : pt P ((o + n : Nat) : Int) = ((a + n : Nat) : Int)
        · refine Ev.congr (fun k => if_pos c2) (Ev.bind x2 ?_)
          by_cases c3 : pt Q ((o + n : Nat) : Int) = ((b + n : Nat) : Int)
          · rw [if_pos ⟨c1, c2, c3⟩] at h
            exact Ev.congr (fun k => if_pos c3) (ih (n + 1) (by omega) (by omega) h)
          · rw [if_neg (fun h => c3 h.2.2)] at h
            exact Ev.congr (fun k => if_neg c3) h
        · rw [if_neg (fun h => c2 h.2.1)] at h
          exact Ev.congr (fun k => if_neg c2) h
    · rw [if_neg (fun h => c1 h.1)] at h
      refine Ev.step (fun k => ?_) h
      simp only [pollardref19_Chunks.l1]
      rw [e1.out, if_neg (by omega)]

theorem ref_l2 {out : List S33} {o a b : Nat} {R : List S33} :
    ∀ (f m : Nat), B.length < m + f → m + f ≤ 1000 → Ev (fun k => pollardref19_Chunks.j5 k B O T (asD P) (asD Q) out (o : Int) (a : Int) (b : Int) ((gap (fun k => pt P k) (fun k => pt Q k) B.length f m : Nat) : Int)) R → Ev (fun k => pollardref19_Chunks.l2 k B O T (asD P) (asD Q) out (o : Int) (a : Int) (b : Int) (m : Int)) R := by
  intro f
  induction f with
  | zero =>
    intro m hf hm h
    refine Ev.step (fun k => ?_) h
    simp only [pollardref19_Chunks.l2]
    rw [if_neg (by omega), gap]
  | succ f ih =>
    intro m hf hm h
    rw [gap] at h
    have x1 := ref_partner P hP (m : Int)
    have x2 := ref_partner Q hQ (m : Int)
    by_cases c1 : m < B.length
    · refine Ev.step (f := fun k => (pollardref19_partner.f k (asD P) (m : Int)).bind fun t261 => (if t261 < 0 then (pollardref19_Chunks.l2 k B O T (asD P) (asD Q) out (o : Int) (a : Int) (b : Int) ((m + 1 : Nat) : Int)) else ((pollardref19_partner.f k (asD Q) (m : Int)).bind fun t262 => (if t262 < 0 then (pollardref19_Chunks.l2 k B O T (asD P) (asD Q) out (o : Int) (a : Int) (b : Int) ((m + 1 : Nat) : Int)) else (pollardref19_Chunks.j5 k B O T (asD P) (asD Q) out (o : Int) (a : Int) (b : Int) (m : Int)))))) (fun k => ?_) (Ev.bind x1 ?_)
      · simp only [pollardref19_Chunks.l2]
        rw [if_pos (by omega), w64s (by omega)]
      · by_cases c2 : pt P (m : Int) < 0
        · rw [if_pos ⟨c1, .inl c2⟩] at h
          exact Ev.congr (fun k => if_pos c2) (ih (m + 1) (by omega) (by omega) h)
        · refine Ev.congr (fun k => if_neg c2) (Ev.bind x2 ?_)
          by_cases c3 : pt Q (m : Int) < 0
          · rw [if_pos ⟨c1, .inr c3⟩] at h
            exact Ev.congr (fun k => if_pos c3) (ih (m + 1) (by omega) (by omega) h)
          · rw [if_neg (fun h => h.2.elim c2 c3)] at h
            exact Ev.congr (fun k => if_neg c3) h
    · rw [if_neg (fun h => c1 h.1)] at h
      refine Ev.step (fun k => ?_) h
      simp only [pollardref19_Chunks.l2]
      rw [if_neg (by omega)]

theorem ref_chs (hp : Part (fun k => pt P (k : Int)) B.length O.length) (hq : Part (fun k => pt Q (k : Int)) B.length T.length) (hB : B.length ≤ 400) (hO : O.length ≤ 400) (hT : T.length ≤ 400) :
    ∀ (f o a b : Nat) (out : List S33), (B.length - o) + (O.length - a) + (T.length - b) < f → out.length + f ≤ 100000 → St B O T (fun k => pt P (k : Int)) (fun k => pt Q (k : Int)) o a b → Ev (fun k => pollardref19_Chunks.l0 k B O T (asD P) (asD Q) out (o : Int) (a : Int) (b : Int)) (out ++ (chs B O T (fun k => pt P (k : Int)) (fun k => pt Q (k : Int)) f o a b).map asR) := by
  intro f
  induction f with
  | zero => intro o a b out h; omega
  | succ f ih =>
    intro o a b out hf hout hS
    have so := hS.o_le
    have sa := hS.p_inv.le
    have sb := hS.q_inv.le
    rw [chs]
    by_cases hc : o < B.length ∨ a < O.length ∨ b < T.length
    · rw [if_pos hc]
      have first : ∀ {R : List S33}, Ev (fun k => pollardref19_Chunks.j3 k B O T (asD P) (asD Q) out (o : Int) (a : Int) (b : Int) ((gn B (fun k => pt P (k : Int)) (fun k => pt Q (k : Int)) o a b : Nat) : Int)) R → Ev (fun k => pollardref19_Chunks.l0 k B O T (asD P) (asD Q) out (o : Int) (a : Int) (b : Int)) R := by
        intro R h
        refine Ev.step (f := fun k => pollardref19_Chunks.j1 k B O T (asD P) (asD Q) out (o : Int) (a : Int) (b : Int) true) (fun k => ?_) ?_
        · simp only [pollardref19_Chunks.l0]
          by_cases c1 : (o : Int) < (B.length : Int)
          · rw [if_pos c1]
          · rw [if_neg c1]
            by_cases c2 : (a : Int) < (O.length : Int)
            · rw [if_pos c2]
            · rw [if_neg c2, decide_eq_true (by omega)]
        · refine Ev.step (f := fun k => pollardref19_Chunks.l1 k B O T (asD P) (asD Q) out (o : Int) (a : Int) (b : Int) ((0 : Nat) : Int)) (fun k => ?_) (ref_l1 hP hQ (by omega) (by omega) (by omega) hB (B.length + 1) 0 (by omega) (by omega) h)
          simp only [pollardref19_Chunks.j1]
          rw [if_pos (by trivial)]
          rfl
      refine first ?_
      by_cases hn : 0 < gn B (fun k => pt P (k : Int)) (fun k => pt Q (k : Int)) o a b
      · rw [if_pos hn]
        have hS2 := hS.same hp hq hn
        have so2 := hS2.o_le
        have sa2 := hS2.p_inv.le
        have sb2 := hS2.q_inv.le
        generalize gn B (fun k => pt P (k : Int)) (fun k => pt Q (k : Int)) o a b = n at *
        have h := ih (o + n) (a + n) (b + n) (out ++ [asR (1, seg B o (o + n), seg O a (a + n), seg T b (b + n))]) (by omega) (by rw [List.length_append, List.length_singleton]; omega) hS2
        rw [List.append_assoc] at h
        refine Ev.step (fun k => ?_) h
        simp only [pollardref19_Chunks.j3]
        rw [if_neg (by omega), w64a (by omega), w64a (by omega), w64a (by omega), if_pos (by omega), if_pos (by omega), if_pos (by omega), if_pos (by omega), if_pos (by omega), if_pos (by omega), if_pos (by omega), if_pos (by omega), if_pos (by omega), if_pos (by omega), Int.toNat_natCast, Int.toNat_natCast, Int.toNat_natCast, Int.toNat_natCast, Int.toNat_natCast, Int.toNat_natCast]
        rfl
      · rw [if_neg hn]
        obtain ⟨hS2, g1, g2, g3⟩ := hS.gap hp hq
        have hless := hS.less hp hq hc hn
        have so2 := hS2.o_le
        have sa2 := hS2.p_inv.le
        have sb2 := hS2.q_inv.le
        have hg0 : gn B (fun k => pt P (k : Int)) (fun k => pt Q (k : Int)) o a b = 0 := by omega
        obtain ⟨_, _, hpos, _⟩ := gk_spec (p := fun k => pt P (k : Int)) (q := fun k => pt Q (k : Int)) hS.o_le
        have hi : gi B O (fun k => pt P (k : Int)) (fun k => pt Q (k : Int)) o = if gk B (fun k => pt P (k : Int)) (fun k => pt Q (k : Int)) o < B.length then (pt P ((gk B (fun k => pt P (k : Int)) (fun k => pt Q (k : Int)) o : Nat) : Int)).toNat else O.length := rfl
        have hj : gj B T (fun k => pt P (k : Int)) (fun k => pt Q (k : Int)) o = if gk B (fun k => pt P (k : Int)) (fun k => pt Q (k : Int)) o < B.length then (pt Q ((gk B (fun k => pt P (k : Int)) (fun k => pt Q (k : Int)) o : Nat) : Int)).toNat else T.length := rfl
        have hl2 : ∀ {R : List S33}, Ev (fun k => pollardref19_Chunks.j5 k B O T (asD P) (asD Q) out (o : Int) (a : Int) (b : Int) ((gk B (fun k => pt P (k : Int)) (fun k => pt Q (k : Int)) o : Nat) : Int)) R → Ev (fun k => pollardref19_Chunks.j3 k B O T (asD P) (asD Q) out (o : Int) (a : Int) (b : Int) ((gn B (fun k => pt P (k : Int)) (fun k => pt Q (k : Int)) o a b : Nat) : Int)) R := by
          intro R h
          refine Ev.step (f := fun k => pollardref19_Chunks.l2 k B O T (asD P) (asD Q) out (o : Int) (a : Int) (b : Int) (o : Int)) (fun k => ?_) (ref_l2 hP hQ (B.length + 1) o (by omega) (by omega) h)
          simp only [pollardref19_Chunks.j3]
          rw [hg0, if_pos (by omega)]
          have e : wrap64 ((o : Int) + ((0 : Nat) : Int)) = (o : Int) := (w64a (m := o) (n := 0) (by omega)).trans rfl
          rw [e]
        refine hl2 ?_
        generalize gk B (fun k => pt P (k : Int)) (fun k => pt Q (k : Int)) o = m at *
        generalize gi B O (fun k => pt P (k : Int)) (fun k => pt Q (k : Int)) o = i at *
        generalize gj B T (fun k => pt P (k : Int)) (fun k => pt Q (k : Int)) o = j at *
        have h := ih m i j (out ++ [asR (kindOf (seg B o m) (seg O a i) (seg T b j), seg B o m, seg O a i, seg T b j)]) (by omega) (by rw [List.length_append, List.length_singleton]; omega) hS2
        rw [List.append_assoc] at h
        have kk := ref_kind (seg B o m) (seg O a i) (seg T b j) (by have := seg_length B o m; omega) (by have := seg_length O a i; omega) (by have := seg_length T b j; omega)
        have hlast : Ev (fun k => (pollardref19_kind.f k (seg B o m) (seg O a i) (seg T b j)).bind fun t => pollardref19_Chunks.l0 k B O T (asD P) (asD Q) (out ++ [(⟨t, seg B o m, seg O a i, seg T b j⟩ : S33)]) (m : Int) (i : Int) (j : Int)) (out ++ ([asR (kindOf (seg B o m) (seg O a i) (seg T b j), seg B o m, seg O a i, seg T b j)] ++ (chs B O T (fun k => pt P (k : Int)) (fun k => pt Q (k : Int)) f m i j).map asR)) := Ev.bind kk h
        by_cases c : m < B.length
        · obtain ⟨p0, q0⟩ := hpos c
          rw [if_pos c] at hi hj
          have y1 : pt P (m : Int) = (i : Int) := by rw [hi]; exact asNat p0
          have y2 : pt Q (m : Int) = (j : Int) := by rw [hj]; exact asNat q0
          have x1 := ref_partner P hP (m : Int)
          have x2 := ref_partner Q hQ (m : Int)
          rw [y1] at x1
          rw [y2] at x2
          refine ev_step ⟨_, fun k => by simp only [pollardref19_Chunks.j5]; rw [if_pos (show (m : Int) < (B.length : Int) by omega)], ?_⟩
          refine Ev.bind x1 ?_
          refine Ev.bind x2 ?_
          refine Ev.congr (fun k => ?_) hlast
          rw [if_pos (by omega), if_pos (by omega), if_pos (by omega), if_pos (by omega), if_pos (by omega), if_pos (by omega), if_pos (by omega), if_pos (by omega), if_pos (by omega), Int.toNat_natCast, Int.toNat_natCast, Int.toNat_natCast, Int.toNat_natCast, Int.toNat_natCast, Int.toNat_natCast]
          unfold seg
          congr 1
          funext bt
          rw [if_pos (by omega)]
        · rw [if_neg c] at hi hj
          subst hi
          subst hj
          refine Ev.step (fun k => ?_) hlast
          simp only [pollardref19_Chunks.j5]
          rw [if_neg (by omega), if_pos (by omega), if_pos (by omega), if_pos (by omega), if_pos (by omega), if_pos (by omega), if_pos (by omega), if_pos (by omega), if_pos (by omega), if_pos (by omega), Int.toNat_natCast, Int.toNat_natCast, Int.toNat_natCast, Int.toNat_natCast, Int.toNat_natCast, Int.toNat_natCast]
          unfold seg
          congr 1
          funext bt
          rw [if_pos (by omega)]
    · rw [if_neg hc, List.map_nil, List.append_nil]
      refine Ev.step (f := fun k => pollardref19_Chunks.j1 k B O T (asD P) (asD Q) out (o : Int) (a : Int) (b : Int) false) (fun k => ?_) (Ev.step (f := fun _ => some out) (fun k => ?_) (Ev.now _))
      · simp only [pollardref19_Chunks.l0]
        rw [if_neg (by omega), if_neg (by omega), decide_eq_false (by omega)]
      · simp only [pollardref19_Chunks.j1]
        rw [if_neg (by simp)]
end
theorem ref_chunks (B O T : List ByteArray) (hB : B.length ≤ 400) (hO : O.length ≤ 400) (hT : T.length ≤ 400) : Ev (fun k => pollardref19_Chunks.f k B O T) ((chunks B O T).map asR) := by
  have l1 := prs0_length B O
  have l2 := prs0_length B T
  unfold pollardref19_Chunks.f
  refine Ev.bind (ref_pairs (size18 hB hO) (by omega) (by omega)) ?_
  refine Ev.bind (ref_pairs (size18 hB hT) (by omega) (by omega)) ?_
  exact ref_chs (P := prs0 B O) (Q := prs0 B T) (by omega) (by omega) (prs0_part B O) (prs0_part B T) hB hO hT (B.length + O.length + T.length + 1) 0 0 0 [] (by omega) (by simp; omega) ⟨Nat.zero_le _, Inv.start _ _, Inv.start _ _⟩
end Go.Proofs.YtfkajhppdeidjaaDoor.Pl
