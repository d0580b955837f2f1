/- The chunks of three texts: what they cover, which stay, and that they may be turned; in plain Lean. -/
import Derived.Test.YthdmioocgofaeaaDoorPl19b
namespace Go.Proofs.YthdmioocgofaeaaDoor.Pl
set_option linter.unusedVariables false
set_option linter.unusedSimpArgs false
open Go.RowKit Go.Proofs.YthdmioocgofaeaaDoor.M Go.Proofs.YthdmioocgofaeaaDoorW.PrintWords Go.Proofs.YthdmioocgofaeaaDoorW.PrintLast

/-- The walk along two texts passes here: the partners from here on are those of the walk from here. -/
def Vis (a b : List ByteArray) (i j : Nat) : Prop := ∃ k, a.length + b.length < i + j + k ∧ ∀ l : Nat, i ≤ l → pt (prs0 a b) (l : Int) = pt (prs a b k i j) (l : Int)
theorem Vis.start (a b : List ByteArray) : Vis a b 0 0 := ⟨a.length + b.length + 1, by omega, fun _ _ => rfl⟩
theorem Vis.front {a b : List ByteArray} {i j : Nat} (h : Vis a b i j) (hi : i < a.length) (hj : j < b.length) (e : (a[i]'hi).toList = (b[j]'hj).toList) : pt (prs0 a b) (i : Int) = (j : Int) ∧ Vis a b (i + 1) (j + 1) := by
  obtain ⟨k, hk, h⟩ := h
  cases k with
  | zero => omega
  | succ k =>
    have ep : prs a b (k + 1) i j = ((i : Int), (j : Int)) :: prs a b k (i + 1) (j + 1) := by rw [prs, dif_pos ⟨hi, hj⟩, if_pos e]
    rw [ep] at h
    refine ⟨?_, k, by omega, fun l hl => ?_⟩
    · rw [h i (Nat.le_refl _), pt, if_pos rfl]
    · rw [h l (by omega), pt, if_neg (by dsimp only; omega)]
theorem Vis.pair {a b : List ByteArray} {i j : Nat} (h : Vis a b i j) (e : pt (prs0 a b) (i : Int) = (j : Int)) : Vis a b (i + 1) (j + 1) := by
  have hm := pt_mem (prs0 a b) (i : Int) (by omega)
  rw [e] at hm
  obtain ⟨_, h1, _, h2, h3⟩ := (prs0_ok a b).2 _ hm
  dsimp only at h1 h2 h3
  have hi : i < a.length := by omega
  have hj : j < b.length := by omega
  rw [rdOf_at a i hi, rdOf_at b j hj] at h3
  exact (h.front hi hj h3).2
theorem prs_at (a b : List ByteArray) : ∀ k i j, a.length + b.length < i + j + k → ∀ l m : Nat, (((l : Int), (m : Int)) : Int × Int) ∈ prs a b k i j → ∃ k', a.length + b.length < l + m + k' ∧ ∀ n : Nat, l ≤ n → pt (prs a b k i j) (n : Int) = pt (prs a b k' l m) (n : Int)
  | 0, i, j, hk, l, m, h => by simp [prs] at h
  | k + 1, i, j, hk, l, m, h => by
    by_cases hr : i < a.length ∧ j < b.length
    · by_cases e : (a[i]'hr.1).toList = (b[j]'hr.2).toList
      · have ep : prs a b (k + 1) i j = ((i : Int), (j : Int)) :: prs a b k (i + 1) (j + 1) := by rw [prs, dif_pos hr, if_pos e]
        rw [ep] at h
        rcases List.mem_cons.mp h with h | h
        · have h1 : (l : Int) = i := congrArg Prod.fst h
          have h2 : (m : Int) = j := congrArg Prod.snd h
          obtain rfl : l = i := by omega
          obtain rfl : m = j := by omega
          exact ⟨k + 1, hk, fun _ _ => rfl⟩
        · obtain ⟨k', h1, h2⟩ := prs_at a b k (i + 1) (j + 1) (by omega) l m h
          have h3 := (prs_mem a b k (i + 1) (j + 1) _ h).1
          dsimp only at h3
          refine ⟨k', h1, fun n hn => ?_⟩
          rw [ep, pt, if_neg (by dsimp only; omega)]
          exact h2 n hn
      · by_cases g : cm a b i (j + 1) > cm a b (i + 1) j
        · have ep : prs a b (k + 1) i j = prs a b k i (j + 1) := by rw [prs, dif_pos hr, if_neg e, if_pos g]
          rw [ep] at h ⊢
          exact prs_at a b k i (j + 1) (by omega) l m h
        · have ep : prs a b (k + 1) i j = prs a b k (i + 1) j := by rw [prs, dif_pos hr, if_neg e, if_neg g]
          rw [ep] at h ⊢
          exact prs_at a b k (i + 1) j (by omega) l m h
    · rw [prs, dif_neg hr] at h
      simp at h
theorem Vis.at {a b : List ByteArray} {i : Nat} (h : 0 ≤ pt (prs0 a b) (i : Int)) : Vis a b i (pt (prs0 a b) (i : Int)).toNat := by
  have hm := pt_mem (prs0 a b) (i : Int) h
  have e : pt (prs0 a b) (i : Int) = ((pt (prs0 a b) (i : Int)).toNat : Int) := asNat h
  rw [e] at hm
  obtain ⟨k', h1, h2⟩ := prs_at a b (a.length + b.length + 1) 0 0 (by omega) i _ hm
  exact ⟨k', h1, h2⟩

theorem seg_split (l : List ByteArray) {a b : Nat} (h : a ≤ b) (hb : b ≤ l.length) : l.drop a = seg l a b ++ l.drop b := by
  unfold seg
  conv => lhs; rw [← List.take_append_drop b l]
  rw [List.drop_append_of_le_length (by rw [List.length_take]; omega)]
theorem seg_get (l : List ByteArray) (a b i : Nat) : (seg l a b)[i]? = if a + i < b then l[a + i]? else none := by
  unfold seg
  rw [List.getElem?_drop, List.getElem?_take]
theorem seg_same {l m : List ByteArray} {a b n : Nat} (hl : a + n ≤ l.length) (hm : b + n ≤ m.length) (h : ∀ i, i < n → (rdOf ByteArray.empty l ((a + i : Nat) : Int)).toList = (rdOf ByteArray.empty m ((b + i : Nat) : Int)).toList) : seg l a (a + n) = seg m b (b + n) := by
  apply List.ext_getElem?
  intro i
  rw [seg_get, seg_get]
  by_cases hi : i < n
  · have h1 : a + i < l.length := by omega
    have h2 : b + i < m.length := by omega
    have h3 := h i hi
    rw [rdOf_at l (a + i) h1, rdOf_at m (b + i) h2] at h3
    rw [if_pos (by omega), if_pos (by omega), List.getElem?_eq_getElem h1, List.getElem?_eq_getElem h2, ba_ext h3]
  · rw [if_neg (by omega), if_neg (by omega)]
theorem seg_first {l m : List ByteArray} {a b i j : Nat} (e : seg l a i = seg m b j) (hi : a < i) (hl : i ≤ l.length) (hm : j ≤ m.length) : ∃ (h1 : a < l.length) (h2 : b < m.length), (l[a]'h1).toList = (m[b]'h2).toList := by
  have h := congrArg (fun z => z[0]?) e
  have h1 : a < l.length := by omega
  rw [seg_get, seg_get, Nat.add_zero, Nat.add_zero, if_pos hi, List.getElem?_eq_getElem h1] at h
  by_cases hj : b < j
  · have h2 : b < m.length := by omega
    rw [if_pos hj, List.getElem?_eq_getElem h2] at h
    exact ⟨h1, h2, by rw [Option.some.inj h]⟩
  · rw [if_neg hj] at h
    cases h
theorem seg_empty {l : List ByteArray} {a b : Nat} (h : b ≤ a) : seg l a b = [] := by
  unfold seg
  exact List.drop_eq_nil_of_le (by rw [List.length_take]; omega)
theorem seg_some {l : List ByteArray} {a b : Nat} (h : a < b) (hb : b ≤ l.length) : seg l a b ≠ [] := by
  intro e
  have := congrArg List.length e
  unfold seg at this
  rw [List.length_drop, List.length_take, List.length_nil] at this
  omega

theorem kindOf_ne (b o t : List ByteArray) : kindOf b o t ≠ 1 := by
  unfold kindOf
  split
  · decide
  · split
    · decide
    · split
      · decide
      · decide
/-- What a chunk is: such as nobody changed, or another one. -/
def Ck (c : Chk) : Prop := (c.1 = 1 ∧ c.2.1 = c.2.2.1 ∧ c.2.1 = c.2.2.2) ∨ (c.1 = kindOf c.2.1 c.2.2.1 c.2.2.2 ∧ ¬ (c.2.1 = c.2.2.1 ∧ c.2.1 = c.2.2.2))
/-- Of two that follow one another at most one is such as nobody changed. -/
def apart : List Chk → Prop
  | [] => True
  | c :: L => (c.1 = 1 → ∀ d, L.head? = some d → d.1 ≠ 1) ∧ apart L

section
variable {B O T : List ByteArray}
theorem chs_facts (hp : Part (fun k => pt (prs0 B O) (k : Int)) B.length O.length) (hq : Part (fun k => pt (prs0 B T) (k : Int)) B.length T.length) :
    ∀ (f o a b : Nat), (B.length - o) + (O.length - a) + (T.length - b) < f → St B O T (fun k => pt (prs0 B O) (k : Int)) (fun k => pt (prs0 B T) (k : Int)) o a b → (Vis B O o a ∧ Vis B T o b) ∨ (B.length ≤ o ∧ O.length ≤ a ∧ T.length ≤ b) →
      (∀ c ∈ chs B O T (fun k => pt (prs0 B O) (k : Int)) (fun k => pt (prs0 B T) (k : Int)) f o a b, Ck c) ∧
      apart (chs B O T (fun k => pt (prs0 B O) (k : Int)) (fun k => pt (prs0 B T) (k : Int)) f o a b) ∧
      (gn B (fun k => pt (prs0 B O) (k : Int)) (fun k => pt (prs0 B T) (k : Int)) o a b = 0 → ∀ d, (chs B O T (fun k => pt (prs0 B O) (k : Int)) (fun k => pt (prs0 B T) (k : Int)) f o a b).head? = some d → d.1 ≠ 1) ∧
      (chs B O T (fun k => pt (prs0 B O) (k : Int)) (fun k => pt (prs0 B T) (k : Int)) f o a b).flatMap (·.2.1) = B.drop o ∧
      (chs B O T (fun k => pt (prs0 B O) (k : Int)) (fun k => pt (prs0 B T) (k : Int)) f o a b).flatMap (·.2.2.1) = O.drop a ∧
      (chs B O T (fun k => pt (prs0 B O) (k : Int)) (fun k => pt (prs0 B T) (k : Int)) f o a b).flatMap (·.2.2.2) = T.drop b ∧
      (chs B O T (fun k => pt (prs0 B O) (k : Int)) (fun k => pt (prs0 B T) (k : Int)) f o a b).length ≤ (B.length - o) + (O.length - a) + (T.length - b) := by
  intro f
  induction f with
  | zero => intro o a b h; omega
  | succ f ih =>
    intro o a b hf hS hV
    have so := hS.o_le
    have sa := hS.p_inv.le
    have sb := hS.q_inv.le
    rw [chs]
    by_cases hc : o < B.length ∨ a < O.length ∨ b < T.length
    · rw [if_pos hc]
      obtain ⟨v1, v2⟩ : Vis B O o a ∧ Vis B T o b := hV.resolve_right (by omega)
      by_cases hn : 0 < gn B (fun k => pt (prs0 B O) (k : Int)) (fun k => pt (prs0 B T) (k : Int)) o a b
      · rw [if_pos hn]
        have hS2 := hS.same hp hq hn
        have so2 := hS2.o_le
        have sa2 := hS2.p_inv.le
        have sb2 := hS2.q_inv.le
        obtain ⟨_, g2, g3⟩ := grow_spec (fun k => pt (prs0 B O) (k : Int)) (fun k => pt (prs0 B T) (k : Int)) B.length o a b (B.length + 1) 0 (by omega)
        have e0 : grow (fun k => pt (prs0 B O) (k : Int)) (fun k => pt (prs0 B T) (k : Int)) B.length o a b (B.length + 1) 0 = gn B (fun k => pt (prs0 B O) (k : Int)) (fun k => pt (prs0 B T) (k : Int)) o a b := rfl
        rw [e0] at g2 g3
        have hz : gn B (fun k => pt (prs0 B O) (k : Int)) (fun k => pt (prs0 B T) (k : Int)) (o + gn B (fun k => pt (prs0 B O) (k : Int)) (fun k => pt (prs0 B T) (k : Int)) o a b) (a + gn B (fun k => pt (prs0 B O) (k : Int)) (fun k => pt (prs0 B T) (k : Int)) o a b) (b + gn B (fun k => pt (prs0 B O) (k : Int)) (fun k => pt (prs0 B T) (k : Int)) o a b) = 0 := by
          generalize gn B (fun k => pt (prs0 B O) (k : Int)) (fun k => pt (prs0 B T) (k : Int)) o a b = n at *
          unfold gn
          rw [grow, Nat.add_zero, Nat.add_zero, Nat.add_zero, if_neg g3]
        have hvis : ∀ i, i ≤ gn B (fun k => pt (prs0 B O) (k : Int)) (fun k => pt (prs0 B T) (k : Int)) o a b → Vis B O (o + i) (a + i) ∧ Vis B T (o + i) (b + i) := by
          intro i
          induction i with
          | zero => intro _; exact ⟨v1, v2⟩
          | succ i ihi =>
            intro hi
            obtain ⟨w1, w2⟩ := ihi (by omega)
            obtain ⟨_, x1, x2⟩ := g2 i (by omega) (by omega)
            exact ⟨w1.pair x1, w2.pair x2⟩
        have hv := hvis _ (Nat.le_refl _)
        have s1 : seg B o (o + gn B (fun k => pt (prs0 B O) (k : Int)) (fun k => pt (prs0 B T) (k : Int)) o a b) = seg O a (a + gn B (fun k => pt (prs0 B O) (k : Int)) (fun k => pt (prs0 B T) (k : Int)) o a b) := by
          refine seg_same so2 sa2 (fun i hi => ?_)
          obtain ⟨_, x1, _⟩ := g2 i (by omega) hi
          have hm := pt_mem (prs0 B O) ((o + i : Nat) : Int) (by omega)
          rw [x1] at hm
          exact ((prs0_ok B O).2 _ hm).2.2.2.2
        have s2 : seg B o (o + gn B (fun k => pt (prs0 B O) (k : Int)) (fun k => pt (prs0 B T) (k : Int)) o a b) = seg T b (b + gn B (fun k => pt (prs0 B O) (k : Int)) (fun k => pt (prs0 B T) (k : Int)) o a b) := by
          refine seg_same so2 sb2 (fun i hi => ?_)
          obtain ⟨_, _, x1⟩ := g2 i (by omega) hi
          have hm := pt_mem (prs0 B T) ((o + i : Nat) : Int) (by omega)
          rw [x1] at hm
          exact ((prs0_ok B T).2 _ hm).2.2.2.2
        obtain ⟨i1, i2, i3, i4, i5, i6, i7⟩ := ih _ _ _ (by omega) hS2 (.inl hv)
        refine ⟨fun c hc => ?_, ⟨fun _ => i3 hz, i2⟩, fun h0 => by omega, ?_, ?_, ?_, by rw [List.length_cons]; omega⟩
        · rcases List.mem_cons.mp hc with e | hc
          · rw [e]; exact .inl ⟨rfl, s1, s2⟩
          · exact i1 c hc
        · rw [List.flatMap_cons, i4]; exact (seg_split B (by omega) so2).symm
        · rw [List.flatMap_cons, i5]; exact (seg_split O (by omega) sa2).symm
        · rw [List.flatMap_cons, i6]; exact (seg_split T (by omega) sb2).symm
      · rw [if_neg hn]
        obtain ⟨hS2, g1, g2, g3⟩ := hS.gap hp hq
        have hless := hS.less hp hq hc hn
        have so2 := hS2.o_le
        have sa2 := hS2.p_inv.le
        have sb2 := hS2.q_inv.le
        obtain ⟨_, _, hpos, _⟩ := gk_spec (p := fun k => pt (prs0 B O) (k : Int)) (q := fun k => pt (prs0 B T) (k : Int)) hS.o_le
        have hi : gi B O (fun k => pt (prs0 B O) (k : Int)) (fun k => pt (prs0 B T) (k : Int)) o = if gk B (fun k => pt (prs0 B O) (k : Int)) (fun k => pt (prs0 B T) (k : Int)) o < B.length then (pt (prs0 B O) ((gk B (fun k => pt (prs0 B O) (k : Int)) (fun k => pt (prs0 B T) (k : Int)) o : Nat) : Int)).toNat else O.length := rfl
        have hj : gj B T (fun k => pt (prs0 B O) (k : Int)) (fun k => pt (prs0 B T) (k : Int)) o = if gk B (fun k => pt (prs0 B O) (k : Int)) (fun k => pt (prs0 B T) (k : Int)) o < B.length then (pt (prs0 B T) ((gk B (fun k => pt (prs0 B O) (k : Int)) (fun k => pt (prs0 B T) (k : Int)) o : Nat) : Int)).toNat else T.length := rfl
        obtain ⟨_, _, n3⟩ := grow_spec (fun k => pt (prs0 B O) (k : Int)) (fun k => pt (prs0 B T) (k : Int)) B.length o a b (B.length + 1) 0 (by omega)
        have e0 : grow (fun k => pt (prs0 B O) (k : Int)) (fun k => pt (prs0 B T) (k : Int)) B.length o a b (B.length + 1) 0 = 0 := by
          have : gn B (fun k => pt (prs0 B O) (k : Int)) (fun k => pt (prs0 B T) (k : Int)) o a b = 0 := by omega
          exact this
        rw [e0, Nat.add_zero, Nat.add_zero, Nat.add_zero] at n3
        have hv : (Vis B O (gk B (fun k => pt (prs0 B O) (k : Int)) (fun k => pt (prs0 B T) (k : Int)) o) (gi B O (fun k => pt (prs0 B O) (k : Int)) (fun k => pt (prs0 B T) (k : Int)) o) ∧ Vis B T (gk B (fun k => pt (prs0 B O) (k : Int)) (fun k => pt (prs0 B T) (k : Int)) o) (gj B T (fun k => pt (prs0 B O) (k : Int)) (fun k => pt (prs0 B T) (k : Int)) o)) ∨ (B.length ≤ gk B (fun k => pt (prs0 B O) (k : Int)) (fun k => pt (prs0 B T) (k : Int)) o ∧ O.length ≤ gi B O (fun k => pt (prs0 B O) (k : Int)) (fun k => pt (prs0 B T) (k : Int)) o ∧ T.length ≤ gj B T (fun k => pt (prs0 B O) (k : Int)) (fun k => pt (prs0 B T) (k : Int)) o) := by
          rw [hi, hj]
          by_cases e : gk B (fun k => pt (prs0 B O) (k : Int)) (fun k => pt (prs0 B T) (k : Int)) o < B.length
          · rw [if_pos e, if_pos e]
            obtain ⟨h1, h2⟩ := hpos e
            exact .inl ⟨Vis.at h1, Vis.at h2⟩
          · rw [if_neg e, if_neg e]
            exact .inr ⟨by omega, Nat.le_refl _, Nat.le_refl _⟩
        generalize gk B (fun k => pt (prs0 B O) (k : Int)) (fun k => pt (prs0 B T) (k : Int)) o = m at *
        generalize gi B O (fun k => pt (prs0 B O) (k : Int)) (fun k => pt (prs0 B T) (k : Int)) o = i at *
        generalize gj B T (fun k => pt (prs0 B O) (k : Int)) (fun k => pt (prs0 B T) (k : Int)) o = j at *
        obtain ⟨i1, i2, i3, i4, i5, i6, i7⟩ := ih m i j (by omega) hS2 hv
        refine ⟨fun c hc => ?_, ⟨fun e => absurd e (kindOf_ne _ _ _), i2⟩, fun _ d hd => ?_, ?_, ?_, ?_, by rw [List.length_cons]; omega⟩
        · rcases List.mem_cons.mp hc with e | hc
          · rw [e]
            refine .inr ⟨rfl, fun ⟨x1, x2⟩ => ?_⟩
            dsimp only at x1 x2
            by_cases ho : o < m
            · obtain ⟨h1, h2, h3⟩ := seg_first x1 ho so2 sa2
              obtain ⟨_, h4, h5⟩ := seg_first x2 ho so2 sb2
              exact n3 ⟨h1, (v1.front h1 h2 h3).1, (v2.front h1 h4 h5).1⟩
            · rw [seg_empty (by omega)] at x1 x2
              rcases hless with h | h | h
              · omega
              · exact seg_some h sa2 x1.symm
              · exact seg_some h sb2 x2.symm
          · exact i1 c hc
        · rw [List.head?_cons] at hd
          rw [← Option.some.inj hd]
          exact kindOf_ne _ _ _
        · rw [List.flatMap_cons, i4]; exact (seg_split B g1 so2).symm
        · rw [List.flatMap_cons, i5]; exact (seg_split O g2 sa2).symm
        · rw [List.flatMap_cons, i6]; exact (seg_split T g3 sb2).symm
    · rw [if_neg hc]
      refine ⟨fun c hc => (by cases hc), trivial, fun _ d hd => (by cases hd), ?_, ?_, ?_, Nat.zero_le _⟩
      · rw [List.drop_eq_nil_of_le (by omega)]; rfl
      · rw [List.drop_eq_nil_of_le (by omega)]; rfl
      · rw [List.drop_eq_nil_of_le (by omega)]; rfl
end
theorem chunks_facts (B O T : List ByteArray) : (∀ c ∈ chunks B O T, Ck c) ∧ apart (chunks B O T) ∧ (chunks B O T).flatMap (·.2.1) = B ∧ (chunks B O T).flatMap (·.2.2.1) = O ∧ (chunks B O T).flatMap (·.2.2.2) = T ∧ (chunks B O T).length ≤ B.length + O.length + T.length := by
  obtain ⟨h1, h2, _, h4, h5, h6, h7⟩ := chs_facts (prs0_part B O) (prs0_part B T) (B.length + O.length + T.length + 1) 0 0 0 (by omega) ⟨Nat.zero_le _, Inv.start _ _, Inv.start _ _⟩ (.inl ⟨Vis.start B O, Vis.start B T⟩)
  exact ⟨h1, h2, h4, h5, h6, h7⟩

/-! turned -/
def tk (k : Int) : Int := if k = 2 then 3 else if k = 3 then 2 else k
def turn (c : Chk) : Chk := (tk c.1, c.2.1, c.2.2.2, c.2.2.1)
theorem kindOf_turn (b o t : List ByteArray) : kindOf b t o = tk (kindOf b o t) := by
  unfold kindOf tk
  by_cases h1 : o = t
  · rw [if_pos h1, if_pos h1.symm]; rfl
  · have h1' : ¬ t = o := fun h => h1 h.symm
    by_cases h2 : b = t
    · have h3 : ¬ b = o := fun h => h1 (h.symm.trans h2)
      simp only [if_neg h1, if_neg h1', if_neg h3, if_pos h2]
      rfl
    · by_cases h3 : b = o
      · simp only [if_neg h1, if_neg h1', if_neg h2, if_pos h3]
        rfl
      · simp only [if_neg h1, if_neg h1', if_neg h2, if_neg h3]
        rfl
theorem grow_turn (p q : Nat → Int) (N o a b : Nat) : ∀ f n, grow q p N o b a f n = grow p q N o a b f n
  | 0, n => rfl
  | f + 1, n => by
    rw [grow, grow, grow_turn p q N o a b f (n + 1)]
    by_cases h : o + n < N ∧ p (o + n) = ((a + n : Nat) : Int) ∧ q (o + n) = ((b + n : Nat) : Int)
    · rw [if_pos h, if_pos ⟨h.1, h.2.2, h.2.1⟩]
    · rw [if_neg h, if_neg (fun g => h ⟨g.1, g.2.2, g.2.1⟩)]
theorem gap_turn (p q : Nat → Int) (N : Nat) : ∀ f k, gap q p N f k = gap p q N f k
  | 0, k => rfl
  | f + 1, k => by
    rw [gap, gap, gap_turn p q N f (k + 1)]
    by_cases h : k < N ∧ (p k < 0 ∨ q k < 0)
    · rw [if_pos h, if_pos ⟨h.1, h.2.symm⟩]
    · rw [if_neg h, if_neg (fun g => h ⟨g.1, g.2.symm⟩)]
theorem chs_turn (B O T : List ByteArray) (p q : Nat → Int) : ∀ f o a b, chs B T O q p f o b a = (chs B O T p q f o a b).map turn
  | 0, o, a, b => rfl
  | f + 1, o, a, b => by
    have e1 : gn B q p o b a = gn B p q o a b := grow_turn p q B.length o a b (B.length + 1) 0
    have e2 : gk B q p o = gk B p q o := gap_turn p q B.length (B.length + 1) o
    have e3 : gi B T q p o = gj B T p q o := by unfold gi gj; rw [e2]
    have e4 : gj B O q p o = gi B O p q o := by unfold gi gj; rw [e2]
    rw [chs, chs, e1, e2, e3, e4]
    by_cases hc : o < B.length ∨ a < O.length ∨ b < T.length
    · rw [if_pos hc, if_pos (by omega)]
      by_cases hn : 0 < gn B p q o a b
      · rw [if_pos hn, if_pos hn, List.map_cons, chs_turn B O T p q f]
        rfl
      · rw [if_neg hn, if_neg hn, List.map_cons, chs_turn B O T p q f, kindOf_turn]
        rfl
    · rw [if_neg hc, if_neg (by omega)]
      rfl
theorem chunks_turn (B O T : List ByteArray) : chunks B T O = (chunks B O T).map turn := by
  unfold chunks
  rw [show B.length + T.length + O.length + 1 = B.length + O.length + T.length + 1 by omega]
  exact chs_turn B O T _ _ _ 0 0 0

/-! what chunks come to -/
def joinB : List ByteArray → ByteArray → ByteArray
  | [], s => s
  | x :: l, s => joinB l (s ++ x)
def takes (c : Chk) : List ByteArray := if c.1 = 3 then c.2.2.2 else c.2.2.1
def txt : List Chk → ByteArray → Option ByteArray
  | [], s => some s
  | c :: L, s => if c.1 = 5 then none else txt L (joinB (takes c) s)
theorem joinB_append : ∀ (l m : List ByteArray) (s : ByteArray), joinB (l ++ m) s = joinB m (joinB l s)
  | [], m, s => rfl
  | x :: l, m, s => by rw [List.cons_append, joinB, joinB, joinB_append l m]
theorem joinB_toList : ∀ (l : List ByteArray) (s : ByteArray), (joinB l s).toList = s.toList ++ (l.map (·.toList)).flatten
  | [], s => by simp [joinB]
  | x :: l, s => by rw [joinB, joinB_toList l, toList_append]; simp
theorem txt_turn : ∀ (L : List Chk), (∀ c ∈ L, Ck c) → ∀ s, txt (L.map turn) s = txt L s
  | [], _, s => rfl
  | c :: L, h, s => by
    have hc := h c List.mem_cons_self
    have ih := txt_turn L (fun d hd => h d (List.mem_cons_of_mem _ hd))
    rw [List.map_cons, txt, txt]
    obtain ⟨k, b, o, t⟩ := c
    by_cases h5 : k = 5
    · rw [if_pos h5, if_pos (show (turn (k, b, o, t)).1 = 5 by show tk k = 5; rw [h5]; decide)]
    have ht : takes (turn (k, b, o, t)) = takes (k, b, o, t) ∧ ((turn (k, b, o, t)).1 = 5 ↔ k = 5) := by
      unfold takes turn tk
      dsimp only
      rcases hc with ⟨e, h1, h2⟩ | ⟨e, _⟩
      · dsimp only at e h1 h2
        subst e
        rw [← h1, ← h2]
        simp
      · dsimp only at e
        unfold kindOf at e
        by_cases g1 : o = t
        · rw [if_pos g1] at e; subst e; subst g1; simp
        · rw [if_neg g1] at e
          by_cases g2 : b = t
          · rw [if_pos g2] at e; subst e; simp
          · rw [if_neg g2] at e
            by_cases g3 : b = o
            · rw [if_pos g3] at e; subst e; simp
            · rw [if_neg g3] at e; exact absurd e h5
    rw [ht.1, if_neg (fun h => h5 (ht.2.mp h)), if_neg h5, ih]
/-- All chunks' own lines of one side. -/
theorem txt_one (g : Chk → List ByteArray) : ∀ (L : List Chk), (∀ c ∈ L, c.1 ≠ 5 ∧ takes c = g c) → ∀ s, txt L s = some (joinB (L.flatMap g) s)
  | [], _, s => rfl
  | c :: L, h, s => by
    obtain ⟨h1, h2⟩ := h c List.mem_cons_self
    rw [txt, if_neg h1, txt_one g L (fun d hd => h d (List.mem_cons_of_mem _ hd)), List.flatMap_cons, joinB_append, h2]
/-- Two that are the same. -/
theorem txt_both (B O : List ByteArray) (s : ByteArray) : txt (chunks B O O) s = some (joinB O s) := by
  have hq := chunks_turn B O O
  have hk : ∀ c ∈ chunks B O O, c.2.2.1 = c.2.2.2 := by
    have go : ∀ f o a b, a = b → ∀ c ∈ chs B O O (fun k => pt (prs0 B O) (k : Int)) (fun k => pt (prs0 B O) (k : Int)) f o a b, c.2.2.1 = c.2.2.2 := by
      intro f
      induction f with
      | zero => intro o a b _ c hc; cases hc
      | succ f ih =>
        intro o a b hab c hc
        subst hab
        rw [chs] at hc
        by_cases h1 : o < B.length ∨ a < O.length ∨ a < O.length
        · rw [if_pos h1] at hc
          by_cases h2 : 0 < gn B (fun k => pt (prs0 B O) (k : Int)) (fun k => pt (prs0 B O) (k : Int)) o a a
          · rw [if_pos h2] at hc
            rcases List.mem_cons.mp hc with e | hc
            · rw [e]
            · exact ih _ _ _ rfl c hc
          · rw [if_neg h2] at hc
            rcases List.mem_cons.mp hc with e | hc
            · rw [e]; rfl
            · exact ih _ _ _ rfl c hc
        · rw [if_neg h1] at hc
          cases hc
    exact go _ _ _ _ rfl
  obtain ⟨h1, _, _, h4, _, _⟩ := chunks_facts B O O
  rw [txt_one (·.2.2.1) _ (fun c hc => ?_) s, h4]
  have h2 := hk c hc
  rcases h1 c hc with ⟨e, _, _⟩ | ⟨e, _⟩
  · unfold takes
    rw [e]
    exact ⟨by decide, if_neg (by decide)⟩
  · unfold kindOf at e
    rw [if_pos h2] at e
    unfold takes
    rw [e]
    exact ⟨by decide, if_neg (by decide)⟩
theorem com_full (l : List ByteArray) : ∀ n i : Nat, l.length - i = n → ∀ k, l.length + l.length < i + i + k → ∀ m : Nat, i ≤ m → m < l.length → pt (prs l l k i i) (m : Int) = (m : Int) := by
  intro n
  induction n with
  | zero => intro i hn k hk m h1 h2; omega
  | succ n ih =>
    intro i hn k hk m h1 h2
    cases k with
    | zero => omega
    | succ k =>
      have hi : i < l.length := by omega
      rw [prs, dif_pos ⟨hi, hi⟩, if_pos rfl, pt]
      by_cases e : i = m
      · rw [if_pos (by dsimp only; omega)]; dsimp only; omega
      · rw [if_neg (by dsimp only; omega)]
        exact ih (i + 1) (by omega) k (by omega) m (by omega) h2
theorem pt_self (l : List ByteArray) (m : Nat) (h : m < l.length) : pt (prs0 l l) (m : Int) = (m : Int) := com_full l l.length 0 (by omega) _ (by omega) m (Nat.zero_le _) h
/-- The other one is the base. -/
theorem txt_left (B O : List ByteArray) (s : ByteArray) : txt (chunks B O B) s = some (joinB O s) := by
  have hk : ∀ c ∈ chunks B O B, c.2.1 = c.2.2.2 := by
    have go : ∀ f o a b, o ≤ B.length → o = b → ∀ c ∈ chs B O B (fun k => pt (prs0 B O) (k : Int)) (fun k => pt (prs0 B B) (k : Int)) f o a b, c.2.1 = c.2.2.2 := by
      intro f
      induction f with
      | zero => intro o a b _ _ c hc; cases hc
      | succ f ih =>
        intro o a b ho hab c hc
        subst hab
        rw [chs] at hc
        by_cases h1 : o < B.length ∨ a < O.length ∨ o < B.length
        · rw [if_pos h1] at hc
          by_cases h2 : 0 < gn B (fun k => pt (prs0 B O) (k : Int)) (fun k => pt (prs0 B B) (k : Int)) o a o
          · rw [if_pos h2] at hc
            rcases List.mem_cons.mp hc with e | hc
            · rw [e]
            · obtain ⟨_, g2, _⟩ := grow_spec (fun k => pt (prs0 B O) (k : Int)) (fun k => pt (prs0 B B) (k : Int)) B.length o a o (B.length + 1) 0 (by omega)
              have := (g2 (gn B (fun k => pt (prs0 B O) (k : Int)) (fun k => pt (prs0 B B) (k : Int)) o a o - 1) (by omega) (by show _ < gn B (fun k => pt (prs0 B O) (k : Int)) (fun k => pt (prs0 B B) (k : Int)) o a o; omega)).1
              exact ih _ _ _ (by omega) rfl c hc
          · rw [if_neg h2] at hc
            obtain ⟨k1, k2, k3, _⟩ := gk_spec (p := fun k => pt (prs0 B O) (k : Int)) (q := fun k => pt (prs0 B B) (k : Int)) ho
            have ej : gj B B (fun k => pt (prs0 B O) (k : Int)) (fun k => pt (prs0 B B) (k : Int)) o = gk B (fun k => pt (prs0 B O) (k : Int)) (fun k => pt (prs0 B B) (k : Int)) o := by
              unfold gj
              by_cases e : gk B (fun k => pt (prs0 B O) (k : Int)) (fun k => pt (prs0 B B) (k : Int)) o < B.length
              · rw [if_pos e]
                show (pt (prs0 B B) _).toNat = _
                rw [pt_self B _ e, Int.toNat_natCast]
              · rw [if_neg e]; omega
            rw [ej] at hc
            rcases List.mem_cons.mp hc with e | hc
            · rw [e]
            · exact ih _ _ _ k2 rfl c hc
        · rw [if_neg h1] at hc
          cases hc
    exact go _ _ _ _ (Nat.zero_le _) rfl
  obtain ⟨h1, _, _, h4, _, _⟩ := chunks_facts B O B
  rw [txt_one (·.2.2.1) _ (fun c hc => ?_) s, h4]
  have h2 := hk c hc
  rcases h1 c hc with ⟨e, _, _⟩ | ⟨e, _⟩
  · unfold takes
    rw [e]
    exact ⟨by decide, if_neg (by decide)⟩
  · unfold kindOf at e
    by_cases h3 : c.2.2.1 = c.2.2.2
    · rw [if_pos h3] at e
      unfold takes
      rw [e]
      exact ⟨by decide, if_neg (by decide)⟩
    · rw [if_neg h3, if_pos h2] at e
      unfold takes
      rw [e]
      exact ⟨by decide, if_neg (by decide)⟩
theorem txt_right (B T : List ByteArray) (s : ByteArray) : txt (chunks B B T) s = some (joinB T s) := by
  rw [← txt_turn _ (chunks_facts B B T).1, ← chunks_turn]
  exact txt_left B T s
end Go.Proofs.YthdmioocgofaeaaDoor.Pl
