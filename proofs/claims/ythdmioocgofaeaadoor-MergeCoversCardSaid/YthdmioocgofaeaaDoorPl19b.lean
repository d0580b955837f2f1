/- Three texts cut into chunks: the program's walk and the document's come to the same plain list. -/
import Derived.Test.YthdmioocgofaeaaDoorPl19
import Derived.Test.YthdmioocgofaeaaDoorMx5
namespace Go.Proofs.YthdmioocgofaeaaDoor.Pl
set_option linter.unusedVariables false
set_option linter.unusedSimpArgs false
open Go.RowKit Go.Proofs.YthdmioocgofaeaaDoor.M Go.Proofs.YthdmioocgofaeaaDoorW.PrintWords Go.Proofs.YthdmioocgofaeaaDoorW.PrintLast

def seg (l : List ByteArray) (a b : Nat) : List ByteArray := (l.take b).drop a
theorem seg_length (l : List ByteArray) (a b : Nat) : (seg l a b).length ≤ l.length := by
  unfold seg
  rw [List.length_drop, List.length_take]
  omega
def grow (p q : Nat → Int) (N o a b : Nat) : Nat → Nat → Nat
  | 0, n => n
  | f + 1, n => if o + n < N ∧ p (o + n) = ((a + n : Nat) : Int) ∧ q (o + n) = ((b + n : Nat) : Int) then grow p q N o a b f (n + 1) else n
def gap (p q : Nat → Int) (N : Nat) : Nat → Nat → Nat
  | 0, k => k
  | f + 1, k => if k < N ∧ (p k < 0 ∨ q k < 0) then gap p q N f (k + 1) else k
theorem grow_spec (p q : Nat → Int) (N o a b : Nat) : ∀ f n, N < o + n + f → n ≤ grow p q N o a b f n ∧ (∀ i, n ≤ i → i < grow p q N o a b f n → o + i < N ∧ p (o + i) = ((a + i : Nat) : Int) ∧ q (o + i) = ((b + i : Nat) : Int)) ∧
    ¬ (o + grow p q N o a b f n < N ∧ p (o + grow p q N o a b f n) = ((a + grow p q N o a b f n : Nat) : Int) ∧ q (o + grow p q N o a b f n) = ((b + grow p q N o a b f n : Nat) : Int))
  | 0, n, hf => ⟨Nat.le_refl _, fun i h1 h2 => by rw [grow] at h2; omega, fun h => by rw [grow] at h; omega⟩
  | f + 1, n, hf => by
    rw [grow]
    by_cases h : o + n < N ∧ p (o + n) = ((a + n : Nat) : Int) ∧ q (o + n) = ((b + n : Nat) : Int)
    · rw [if_pos h]
      obtain ⟨h1, h2, h3⟩ := grow_spec p q N o a b f (n + 1) (by omega)
      refine ⟨by omega, fun i hi1 hi2 => ?_, h3⟩
      by_cases e : i = n
      · rw [e]; exact h
      · exact h2 i (by omega) hi2
    · rw [if_neg h]
      exact ⟨Nat.le_refl _, fun i h1 h2 => by omega, h⟩
theorem gap_spec (p q : Nat → Int) (N : Nat) : ∀ f k, N < k + f → k ≤ gap p q N f k ∧ (∀ i, k ≤ i → i < gap p q N f k → i < N ∧ (p i < 0 ∨ q i < 0)) ∧ ¬ (gap p q N f k < N ∧ (p (gap p q N f k) < 0 ∨ q (gap p q N f k) < 0))
  | 0, k, hf => ⟨Nat.le_refl _, fun i h1 h2 => by rw [gap] at h2; omega, fun h => by rw [gap] at h; omega⟩
  | f + 1, k, hf => by
    rw [gap]
    by_cases h : k < N ∧ (p k < 0 ∨ q k < 0)
    · rw [if_pos h]
      obtain ⟨h1, h2, h3⟩ := gap_spec p q N f (k + 1) (by omega)
      refine ⟨by omega, fun i hi1 hi2 => ?_, h3⟩
      by_cases e : i = k
      · rw [e]; exact h
      · exact h2 i (by omega) hi2
    · rw [if_neg h]
      exact ⟨Nat.le_refl _, fun i h1 h2 => by omega, h⟩
/-- Where a walk may stand: nothing behind it leads ahead of it. -/
structure Inv (p : Nat → Int) (M o a : Nat) : Prop where
  le : a ≤ M
  go : ∀ k, o ≤ k → 0 ≤ p k → (a : Int) ≤ p k
theorem Inv.start (p : Nat → Int) (M : Nat) : Inv p M 0 0 := ⟨Nat.zero_le _, fun k _ h => h⟩
theorem Inv.grown {p : Nat → Int} {N M o a n : Nat} (hp : Part p N M) (h0 : 0 < n) (h : ∀ i, i < n → p (o + i) = ((a + i : Nat) : Int)) : Inv p M (o + n) (a + n) := by
  have h1 := h (n - 1) (by omega)
  have h2 := hp.top (o + (n - 1))
  refine ⟨by omega, fun k hk hk0 => ?_⟩
  have h3 := hp.up (o + (n - 1)) k (by omega) (by omega) hk0
  omega
theorem Inv.put {p : Nat → Int} {N M k : Nat} (hp : Part p N M) (h : 0 ≤ p k) : Inv p M k (p k).toNat := by
  have h2 := hp.top k
  refine ⟨by omega, fun l hl hl0 => ?_⟩
  by_cases e : l = k
  · subst e; omega
  · have h3 := hp.up k l (by omega) h hl0
    omega
theorem Inv.last {p : Nat → Int} {N M k : Nat} (hp : Part p N M) (hk : N ≤ k) : Inv p M k M := by
  refine ⟨Nat.le_refl _, fun l hl hl0 => ?_⟩
  have := hp.off l (by omega)
  omega

abbrev Chk := Int × List ByteArray × List ByteArray × List ByteArray
section
variable (B O T : List ByteArray) (p q : Nat → Int)
def gn (o a b : Nat) : Nat := grow p q B.length o a b (B.length + 1) 0
def gk (o : Nat) : Nat := gap p q B.length (B.length + 1) o
def gi (o : Nat) : Nat := if gk B p q o < B.length then (p (gk B p q o)).toNat else O.length
def gj (o : Nat) : Nat := if gk B p q o < B.length then (q (gk B p q o)).toNat else T.length
def chs : Nat → Nat → Nat → Nat → List Chk
  | 0, _, _, _ => []
  | f + 1, o, a, b => if o < B.length ∨ a < O.length ∨ b < T.length then
      (if 0 < gn B p q o a b then (1, seg B o (o + gn B p q o a b), seg O a (a + gn B p q o a b), seg T b (b + gn B p q o a b)) :: chs f (o + gn B p q o a b) (a + gn B p q o a b) (b + gn B p q o a b)
       else (kindOf (seg B o (gk B p q o)) (seg O a (gi B O p q o)) (seg T b (gj B T p q o)), seg B o (gk B p q o), seg O a (gi B O p q o), seg T b (gj B T p q o)) :: chs f (gk B p q o) (gi B O p q o) (gj B T p q o))
    else []
end
/-- Where the walk stands. -/
structure St (B O T : List ByteArray) (p q : Nat → Int) (o a b : Nat) : Prop where
  o_le : o ≤ B.length
  p_inv : Inv p O.length o a
  q_inv : Inv q T.length o b
section
variable {B O T : List ByteArray} {p q : Nat → Int}
theorem St.same (hp : Part p B.length O.length) (hq : Part q B.length T.length) {o a b : Nat} (h : St B O T p q o a b) (hn : 0 < gn B p q o a b) : St B O T p q (o + gn B p q o a b) (a + gn B p q o a b) (b + gn B p q o a b) := by
  obtain ⟨h1, h2, h3⟩ := grow_spec p q B.length o a b (B.length + 1) 0 (by omega)
  have h4 := h2 (gn B p q o a b - 1) (by omega) (by show _ < gn B p q o a b; omega)
  exact ⟨by omega, Inv.grown hp hn (fun i hi => (h2 i (by omega) hi).2.1), Inv.grown hq hn (fun i hi => (h2 i (by omega) hi).2.2)⟩
theorem gk_spec {o : Nat} (ho : o ≤ B.length) : o ≤ gk B p q o ∧ gk B p q o ≤ B.length ∧ (gk B p q o < B.length → 0 ≤ p (gk B p q o) ∧ 0 ≤ q (gk B p q o)) ∧ (∀ i, o ≤ i → i < gk B p q o → p i < 0 ∨ q i < 0) := by
  obtain ⟨h1, h2, h3⟩ := gap_spec p q B.length (B.length + 1) o (by omega)
  refine ⟨h1, ?_, fun h => ?_, fun i hi1 hi2 => (h2 i hi1 hi2).2⟩
  · by_cases e : gk B p q o ≤ B.length
    · exact e
    · have h4 := (h2 (gk B p q o - 1) (by omega) (by show _ < gk B p q o; omega)).1
      omega
  · constructor
    · by_cases e : 0 ≤ p (gk B p q o)
      · exact e
      · exact absurd ⟨h, .inl (by show p (gk B p q o) < 0; omega)⟩ h3
    · by_cases e : 0 ≤ q (gk B p q o)
      · exact e
      · exact absurd ⟨h, .inr (by show q (gk B p q o) < 0; omega)⟩ h3
theorem St.gap (hp : Part p B.length O.length) (hq : Part q B.length T.length) {o a b : Nat} (h : St B O T p q o a b) : St B O T p q (gk B p q o) (gi B O p q o) (gj B T p q o) ∧ o ≤ gk B p q o ∧ a ≤ gi B O p q o ∧ b ≤ gj B T p q o := by
  obtain ⟨h1, h2, h3, _⟩ := gk_spec (p := p) (q := q) h.o_le
  unfold gi gj
  by_cases e : gk B p q o < B.length
  · rw [if_pos e, if_pos e]
    obtain ⟨h4, h5⟩ := h3 e
    have h6 := h.p_inv.go _ h1 h4
    have h7 := h.q_inv.go _ h1 h5
    exact ⟨⟨h2, Inv.put hp h4, Inv.put hq h5⟩, h1, by omega, by omega⟩
  · rw [if_neg e, if_neg e]
    exact ⟨⟨h2, Inv.last hp (by omega), Inv.last hq (by omega)⟩, h1, h.p_inv.le, h.q_inv.le⟩
theorem St.less (hp : Part p B.length O.length) (hq : Part q B.length T.length) {o a b : Nat} (h : St B O T p q o a b) (hc : o < B.length ∨ a < O.length ∨ b < T.length) (hn : ¬ 0 < gn B p q o a b) : o < gk B p q o ∨ a < gi B O p q o ∨ b < gj B T p q o := by
  obtain ⟨h1, h2, h3, _⟩ := gk_spec (p := p) (q := q) h.o_le
  obtain ⟨_, _, g3⟩ := grow_spec p q B.length o a b (B.length + 1) 0 (by omega)
  have e0 : grow p q B.length o a b (B.length + 1) 0 = 0 := by
    have : gn B p q o a b = 0 := by omega
    exact this
  rw [e0, Nat.add_zero, Nat.add_zero, Nat.add_zero] at g3
  unfold gi gj
  by_cases e : gk B p q o < B.length
  · rw [if_pos e, if_pos e]
    obtain ⟨h4, h5⟩ := h3 e
    have h6 := h.p_inv.go _ h1 h4
    have h7 := h.q_inv.go _ h1 h5
    by_cases e1 : o = gk B p q o
    · rw [← e1] at h4 h5 h6 h7 e ⊢
      by_cases e2 : p o = (a : Int)
      · by_cases e3 : q o = (b : Int)
        · exact absurd ⟨e, e2, e3⟩ g3
        · omega
      · omega
    · omega
  · rw [if_neg e, if_neg e]
    have := h.p_inv.le
    have := h.q_inv.le
    omega
end

theorem asNat {x : Int} (h : 0 ≤ x) : x = ((x.toNat : Nat) : Int) := (Int.toNat_of_nonneg h).symm
theorem w64a {m n : Nat} (h : m + n ≤ 100000000) : wrap64 ((m : Int) + (n : Int)) = ((m + n : Nat) : Int) := (w64 (by omega) (by omega)).trans (by omega)

section
variable {B O T : List ByteArray} {p q : Nat → Int} (hp : Part p B.length O.length) (hq : Part q B.length T.length) (hB : B.length ≤ 400) (hO : O.length ≤ 400) (hT : T.length ≤ 400)
include hp hq hB hO hT

omit hp hq hO hT in
theorem prog_l1 {X Y : List Int} (hX : X.length = B.length) (hY : Y.length = B.length) (hXp : ∀ k : Nat, k < B.length → rd X k = p k) (hYq : ∀ k : Nat, k < B.length → rd Y k = q k) {out : List S30} {o a b : Nat} (ho : o ≤ 400) (ha : a ≤ 400) (hb : b ≤ 400) {R : List S30 × Int} :
    ∀ (f n : Nat), B.length < o + n + f → n + f ≤ 1000 → Ev (fun k => merge_Chunks.j3 k B O T X Y out (o : Int) (a : Int) (b : Int) ((grow p q B.length o a b f n : Nat) : Int)) R → Ev (fun k => merge_Chunks.l1 k B O T X Y out (o : Int) (a : Int) (b : Int) (n : Int)) R := by
  intro f
  induction f with
  | zero =>
    intro n hf hn h
    refine Ev.step (fun k => ?_) h
    simp only [merge_Chunks.l1]
    rw [w64a (by omega), if_neg (by omega), grow]
  | succ f ih =>
    intro n hf hn h
    rw [grow] at h
    have e1 := Aside0.mk (w64a (m := o) (n := n) (by omega))
    have e2 := Aside0.mk (w64a (m := a) (n := n) (by omega))
    have e3 := Aside0.mk (w64a (m := b) (n := n) (by omega))
    have e4 := Aside0.mk (w64s (n := n) (by omega))
    by_cases c1 : o + n < B.length
    · have x1 := hXp (o + n) c1
      have x2 := hYq (o + n) c1
      have q1 := nl c1
      have q2 : ((o + n : Nat) : Int) < (X.length : Int) := by rw [hX]; exact nl c1
      have q3 : ((o + n : Nat) : Int) < (Y.length : Int) := by rw [hY]; exact nl c1
      have k1 : B.length < o + (n + 1) + f := by omega
      have k2 : n + 1 + f ≤ 1000 := by omega
      by_cases c2 : p (o + n) = ((a + n : Nat) : Int)
      · by_cases c3 : q (o + n) = ((b + n : Nat) : Int)
        · rw [if_pos ⟨c1, c2, c3⟩] at h
          refine Ev.step (fun k => ?_) (ih (n + 1) k1 k2 h)
          simp only [merge_Chunks.l1]
          rw [e1.out, e2.out, e3.out, e4.out, x1, x2, if_pos q1, if_pos (nn _), if_pos q2, if_pos c2, if_pos q3, if_pos c3]
        · rw [if_neg (fun h => c3 h.2.2)] at h
          refine Ev.step (fun k => ?_) h
          simp only [merge_Chunks.l1]
          rw [e1.out, e2.out, e3.out, x1, x2, if_pos q1, if_pos (nn _), if_pos q2, if_pos c2, if_pos q3, if_neg c3]
      · rw [if_neg (fun h => c2 h.2.1)] at h
        refine Ev.step (fun k => ?_) h
        simp only [merge_Chunks.l1]
        rw [e1.out, e2.out, x1, if_pos q1, if_pos (nn _), if_pos q2, if_neg c2]
    · rw [if_neg (fun h => c1 h.1)] at h
      have q1 : ¬ ((o + n : Nat) : Int) < (B.length : Int) := fun h => c1 (Int.ofNat_lt.mp h)
      refine Ev.step (fun k => ?_) h
      simp only [merge_Chunks.l1]
      rw [e1.out, if_neg q1]

omit hp hq hB hO hT in
theorem prog_l2 {X Y : List Int} (hX : X.length = B.length) (hY : Y.length = B.length) (hXp : ∀ k : Nat, k < B.length → rd X k = p k) (hYq : ∀ k : Nat, k < B.length → rd Y k = q k) {out : List S30} {o a b : Nat} {R : List S30 × Int} :
    ∀ (f m : Nat), B.length < m + f → m + f ≤ 1000 → Ev (fun k => merge_Chunks.l2 k B O T X Y out (o : Int) (a : Int) (b : Int) ((gap p q B.length f m : Nat) : Int)) R → Ev (fun k => merge_Chunks.l2 k B O T X Y out (o : Int) (a : Int) (b : Int) (m : Int)) R := by
  intro f
  induction f with
  | zero => intro m hf hm h; exact h
  | succ f ih =>
    intro m hf hm h
    rw [gap] at h
    by_cases c : m < B.length ∧ (p m < 0 ∨ q m < 0)
    · rw [if_pos c] at h
      obtain ⟨c1, c2⟩ := c
      have x1 := hXp m c1
      have x2 := hYq m c1
      have q1 := nl c1
      have q2 : (m : Int) < (X.length : Int) := by rw [hX]; exact nl c1
      have q3 : (m : Int) < (Y.length : Int) := by rw [hY]; exact nl c1
      have e1 := Aside0.mk (w64s (n := m) (by omega))
      have k1 : B.length < m + 1 + f := by omega
      have k2 : m + 1 + f ≤ 1000 := by omega
      refine Ev.step (fun k => ?_) (ih (m + 1) k1 k2 h)
      simp only [merge_Chunks.l2]
      rw [if_pos q1, if_pos (nn m), if_pos q2, x1]
      by_cases c3 : p m < 0
      · rw [if_pos c3, e1.out]
      · rw [if_neg c3, if_pos q3, x2, if_pos (c2.resolve_left c3), e1.out]
    · rw [if_neg c] at h
      exact h

/-- A chunk, as the program has it. -/
def asP (c : Chk) : S30 := ⟨c.1, c.2.1, c.2.2.1, c.2.2.2⟩

theorem prog_chs {X Y : List Int} (hX : X.length = B.length) (hY : Y.length = B.length) (hXp : ∀ k : Nat, k < B.length → rd X k = p k) (hYq : ∀ k : Nat, k < B.length → rd Y k = q k) :
    ∀ (f o a b : Nat) (out : List S30), (B.length - o) + (O.length - a) + (T.length - b) < f → out.length + f ≤ 100000 → St B O T p q o a b → Ev (fun k => merge_Chunks.l0 k B O T X Y out (o : Int) (a : Int) (b : Int)) (out ++ (chs B O T p q f o a b).map asP, 0) := by
  intro f
  induction f with
  | zero => intro o a b out h; omega
  | succ f ih =>
    intro o a b out hf hout hS
    have so := hS.o_le
    have sa := hS.p_inv.le
    have sb := hS.q_inv.le
    rw [chs]
    by_cases hc : o < B.length ∨ a < O.length ∨ b < T.length
    · rw [if_pos hc]
      have first : ∀ {R : List S30 × Int}, Ev (fun k => merge_Chunks.j3 k B O T X Y out (o : Int) (a : Int) (b : Int) ((gn B p q o a b : Nat) : Int)) R → Ev (fun k => merge_Chunks.l0 k B O T X Y out (o : Int) (a : Int) (b : Int)) R := by
        intro R h
        refine Ev.step (f := fun k => merge_Chunks.j1 k B O T X Y out (o : Int) (a : Int) (b : Int) true) (fun k => ?_) ?_
        · simp only [merge_Chunks.l0]
          by_cases c1 : (o : Int) < (B.length : Int)
          · rw [if_pos c1]
          · rw [if_neg c1]
            by_cases c2 : (a : Int) < (O.length : Int)
            · rw [if_pos c2]
            · rw [if_neg c2, decide_eq_true (by omega)]
        · refine Ev.step (f := fun k => merge_Chunks.l1 k B O T X Y out (o : Int) (a : Int) (b : Int) ((0 : Nat) : Int)) (fun k => ?_) (prog_l1 hB hX hY hXp hYq (by omega) (by omega) (by omega) (B.length + 1) 0 (by omega) (by omega) h)
          simp only [merge_Chunks.j1]
          rw [if_pos (by trivial)]
          rfl
      refine first ?_
      by_cases hn : 0 < gn B p q o a b
      · rw [if_pos hn]
        have hS2 := hS.same hp hq hn
        have so2 := hS2.o_le
        have sa2 := hS2.p_inv.le
        have sb2 := hS2.q_inv.le
        generalize gn B p q o a b = n at *
        have h := ih (o + n) (a + n) (b + n) (out ++ [asP (1, seg B o (o + n), seg O a (a + n), seg T b (b + n))]) (by omega) (by rw [List.length_append, List.length_singleton]; omega) hS2
        rw [List.append_assoc] at h
        have k1 := clone_f (seg B o (o + n)) (by have := seg_length B o (o + n); omega)
        have k2 := clone_f (seg O a (a + n)) (by have := seg_length O a (a + n); omega)
        have k3 := clone_f (seg T b (b + n)) (by have := seg_length T b (b + n); omega)
        unfold seg at k1 k2 k3
        have d1 := Aside0.mk (w64a (m := o) (n := n) (by omega))
        have d2 := Aside0.mk (w64a (m := a) (n := n) (by omega))
        have d3 := Aside0.mk (w64a (m := b) (n := n) (by omega))
        have d4 : out.length < 1759218604441 := by omega
        have d5 : (n : Int) > 0 := nl hn
        refine Ev.step (fun k => ?_) h
        simp only [merge_Chunks.j3]
        rw [d1.out, d2.out, d3.out, if_pos d5, if_pos (nn o), if_pos (Int.ofNat_le.mpr (Nat.le_add_right o n)), if_pos (Int.ofNat_le.mpr so2), Int.toNat_natCast, Int.toNat_natCast, k1, Option.bind_some, if_pos (nn a), if_pos (Int.ofNat_le.mpr (Nat.le_add_right a n)), if_pos (Int.ofNat_le.mpr sa2), Int.toNat_natCast, Int.toNat_natCast, k2, Option.bind_some, if_pos (nn b), if_pos (Int.ofNat_le.mpr (Nat.le_add_right b n)), if_pos (Int.ofNat_le.mpr sb2), Int.toNat_natCast, Int.toNat_natCast, k3, Option.bind_some, if_pos d4]
        rfl
      · rw [if_neg hn]
        obtain ⟨hS2, g1, g2, g3⟩ := hS.gap hp hq
        have hless := hS.less hp hq hc hn
        have so2 := hS2.o_le
        have sa2 := hS2.p_inv.le
        have sb2 := hS2.q_inv.le
        have hg0 : gn B p q o a b = 0 := by omega
        obtain ⟨_, _, hpos, _⟩ := gk_spec (p := p) (q := q) hS.o_le
        have hi : gi B O p q o = if gk B p q o < B.length then (p (gk B p q o)).toNat else O.length := rfl
        have hj : gj B T p q o = if gk B p q o < B.length then (q (gk B p q o)).toNat else T.length := rfl
        have hl2 : ∀ {R : List S30 × Int}, Ev (fun k => merge_Chunks.l2 k B O T X Y out (o : Int) (a : Int) (b : Int) ((gk B p q o : Nat) : Int)) R → Ev (fun k => merge_Chunks.j3 k B O T X Y out (o : Int) (a : Int) (b : Int) ((gn B p q o a b : Nat) : Int)) R := by
          intro R h
          refine Ev.step (f := fun k => merge_Chunks.l2 k B O T X Y out (o : Int) (a : Int) (b : Int) (o : Int)) (fun k => ?_) (prog_l2 hX hY hXp hYq (B.length + 1) o (by omega) (by omega) h)
          simp only [merge_Chunks.j3]
          rw [hg0, if_neg (by simp)]
        refine hl2 ?_
        generalize gk B p q o = m at *
        generalize gi B O p q o = i at *
        generalize gj B T p q o = j at *
        have h := ih m i j (out ++ [asP (kindOf (seg B o m) (seg O a i) (seg T b j), seg B o m, seg O a i, seg T b j)]) (by omega) (by rw [List.length_append, List.length_singleton]; omega) hS2
        rw [List.append_assoc] at h
        have kk := prog_kind (seg B o m) (seg O a i) (seg T b j) (by have := seg_length B o m; omega) (by have := seg_length O a i; omega) (by have := seg_length T b j; omega)
        have hlast : Ev (fun k => (merge_chunk.f k (seg B o m) (seg O a i) (seg T b j)).bind fun bt => merge_Chunks.l0 k B O T X Y (out ++ [(⟨bt.1, bt.2.1, bt.2.2.1, bt.2.2.2⟩ : S30)]) (m : Int) (i : Int) (j : Int)) (out ++ ([asP (kindOf (seg B o m) (seg O a i) (seg T b j), seg B o m, seg O a i, seg T b j)] ++ (chs B O T p q f m i j).map asP), 0) := Ev.bind kk h
        have d4 : out.length < 1759218604441 := by omega
        have d0 : ¬ (i : Int) < 0 := Int.not_lt.mpr (nn i)
        have d1 : ¬ (j : Int) < 0 := Int.not_lt.mpr (nn j)
        refine Ev.step (fun k => ?_) hlast
        simp only [merge_Chunks.l2]
        by_cases c : m < B.length
        · obtain ⟨p0, q0⟩ := hpos c
          rw [if_pos c] at hi hj
          have x1 := hXp m c
          have x2 := hYq m c
          have y1 : p m = (i : Int) := by rw [hi]; exact asNat p0
          have y2 : q m = (j : Int) := by rw [hj]; exact asNat q0
          have q2 : (m : Int) < (X.length : Int) := by rw [hX]; exact nl c
          have q3 : (m : Int) < (Y.length : Int) := by rw [hY]; exact nl c
          rw [x1, x2, y1, y2, if_pos (nl c), if_pos (nn m), if_pos q2, if_neg d0, if_pos q3, if_neg d1, if_pos (nn o), if_pos (Int.ofNat_le.mpr g1), if_pos (Int.ofNat_le.mpr so2), if_pos (nn a), if_pos (Int.ofNat_le.mpr g2), if_pos (Int.ofNat_le.mpr sa2), if_pos (nn b), if_pos (Int.ofNat_le.mpr g3), if_pos (Int.ofNat_le.mpr sb2), Int.toNat_natCast, Int.toNat_natCast, Int.toNat_natCast, Int.toNat_natCast, Int.toNat_natCast, Int.toNat_natCast]
          unfold seg
          congr 1
          funext bt
          rw [if_pos d4]
        · rw [if_neg c] at hi hj
          subst hi
          subst hj
          have c' : ¬ (m : Int) < (B.length : Int) := fun h => c (Int.ofNat_lt.mp h)
          rw [if_neg c', if_pos (nn o), if_pos (Int.ofNat_le.mpr g1), if_pos (Int.ofNat_le.mpr so2), if_pos (nn a), if_pos (Int.ofNat_le.mpr g2), if_pos (Int.le_refl _), if_pos (nn b), if_pos (Int.ofNat_le.mpr g3), if_pos (Int.le_refl _), Int.toNat_natCast, Int.toNat_natCast, Int.toNat_natCast, Int.toNat_natCast, Int.toNat_natCast, Int.toNat_natCast]
          unfold seg
          congr 1
          funext bt
          rw [if_pos d4]
    · rw [if_neg hc, List.map_nil, List.append_nil]
      refine Ev.step (f := fun k => merge_Chunks.j1 k B O T X Y out (o : Int) (a : Int) (b : Int) false) (fun k => ?_) (Ev.step (f := fun _ => some (out, 0)) (fun k => ?_) (Ev.now _))
      · simp only [merge_Chunks.l0]
        rw [if_neg (by omega), if_neg (by omega), decide_eq_false (by omega)]
      · simp only [merge_Chunks.j1]
        rw [if_neg (by simp)]
end
/-- The chunks of three whole texts. -/
def chunks (B O T : List ByteArray) : List Chk := chs B O T (fun k => pt (prs0 B O) (k : Int)) (fun k => pt (prs0 B T) (k : Int)) (B.length + O.length + T.length + 1) 0 0 0
theorem prs0_part (B O : List ByteArray) : Part (fun k => pt (prs0 B O) (k : Int)) B.length O.length := by
  obtain ⟨h1, h2⟩ := prs0_ok B O
  exact pt_part _ B.length O.length h1 (fun x hx => ⟨(h2 x hx).2.1, (h2 x hx).2.2.1, (h2 x hx).2.2.2.1⟩)
theorem prog_chunks (B O T : List ByteArray) (hB : B.length ≤ 400) (hO : O.length ≤ 400) (hT : T.length ≤ 400) : Ev (fun k => merge_Chunks.f k B O T) ((chunks B O T).map asP, 0) := by
  obtain ⟨X, hX, hXp, hXe⟩ := prog_partners B O hB hO
  obtain ⟨Y, hY, hYq, hYe⟩ := prog_partners B T hB hT
  unfold merge_Chunks.f
  refine Ev.bind hXe ?_
  refine Ev.congr (fun k => if_pos rfl) ?_
  refine Ev.bind hYe ?_
  refine Ev.congr (fun k => if_pos rfl) ?_
  exact prog_chs (prs0_part B O) (prs0_part B T) hB hO hT hX hY hXp hYq (B.length + O.length + T.length + 1) 0 0 0 [] (by omega) (by simp; omega) ⟨Nat.zero_le _, Inv.start _ _, Inv.start _ _⟩
end Go.Proofs.YthdmioocgofaeaaDoor.Pl
