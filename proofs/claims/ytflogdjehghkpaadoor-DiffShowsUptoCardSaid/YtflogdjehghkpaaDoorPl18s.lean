/- What makes one text of another one: the program's telling and the document's come to one plain text. -/
import Derived.Test.YtflogdjehghkpaaDoorPl18d
import Derived.Test.YtflogdjehghkpaaDoorMx10
import Derived.Test.YtflogdjehghkpaaDoorMx9
import Derived.Test.YtflogdjehghkpaaDoorMx5
import Derived.Test.YtflogdjehghkpaaDoorMx4
namespace Go.Proofs.YtflogdjehghkpaaDoor.Pl
set_option linter.unusedVariables false
set_option linter.unusedSimpArgs false
open Go.RowKit Go.Proofs.YtflogdjehghkpaaDoor.M Go.Proofs.YtflogdjehghkpaaDoorW.PrintWords Go.Proofs.YtflogdjehghkpaaDoorW.PrintLast

/-- A line without the byte 10 at its end. -/
def bareL (x : ByteArray) : ByteArray := if x.toList.getLast? = some 10 then x.extract 0 (x.size - 1) else x
theorem bareL_size (x : ByteArray) : (bareL x).size ≤ x.size := by
  unfold bareL
  split
  · rw [ByteArray.size_extract]; omega
  · exact Nat.le_refl _
theorem bare_f (x : ByteArray) (h : x.size ≤ 100000000) : pollardref18_bare.f x = some (bareL x) := by
  have hl := toList_length x
  unfold pollardref18_bare.f bareL
  by_cases h0 : (x.size : Int) > 0
  · have hw : wrap64 ((x.size : Int) - 1) = ((x.size - 1 : Nat) : Int) := (w64 (by omega) (by omega)).trans (by omega)
    have hlt : x.size - 1 < x.size := by omega
    have hb := bt_toList x (x.size - 1) hlt
    have hg : x.toList.getLast? = some (x.toList[x.size - 1]'(by omega)) := by
      rw [List.getLast?_eq_getElem?, show x.toList.length - 1 = x.size - 1 by omega]
      exact List.getElem?_eq_getElem _
    rw [if_pos h0, hw, if_pos (by omega), if_pos (by omega), hg]
    by_cases hc : x.toList[x.size - 1]'(by omega) = 10
    · have hb1 : bt x ((x.size - 1 : Nat) : Int) = 10 := by rw [hb, hc]; rfl
      rw [if_pos hb1, if_pos (by omega), if_pos (by rw [hc]), Int.toNat_natCast]
    · have hb2 : ¬ bt x ((x.size - 1 : Nat) : Int) = 10 := by
        rw [hb]
        intro e
        apply hc
        apply UInt8.toNat_inj.mp
        show _ = 10
        omega
      rw [if_neg hb2, if_neg (fun e => hc (Option.some.inj e))]
  · have hn : x.toList = [] := List.eq_nil_of_length_eq_zero (by omega)
    rw [if_neg h0, hn, if_neg (by simp)]
theorem trim_f (x : ByteArray) (h : x.size ≤ 100000000) : strings_TrimSuffix.f x (⟨#[10]⟩ : ByteArray) = some (bareL x) := by
  have hl := toList_length x
  have e1 : (⟨#[10]⟩ : ByteArray).size = 1 := rfl
  have e2 : (⟨#[10]⟩ : ByteArray).toList = [10] := toList_lit [10]
  unfold strings_TrimSuffix.f stringslite_TrimSuffix.f stringslite_HasSuffix.f bareL
  rw [e1, e2]
  by_cases h0 : (x.size : Int) ≥ ((1 : Nat) : Int)
  · have hw : wrap64 ((x.size : Int) - ((1 : Nat) : Int)) = ((x.size - 1 : Nat) : Int) := (w64 (by omega) (by omega)).trans (by omega)
    have hg : x.toList.getLast? = some (x.toList[x.size - 1]'(by omega)) := by
      rw [List.getLast?_eq_getElem?, show x.toList.length - 1 = x.size - 1 by omega]
      exact List.getElem?_eq_getElem _
    have ht : (x.extract (x.size - 1) x.size).toList = [x.toList[x.size - 1]'(by omega)] := by
      rw [toList_from, List.drop_eq_getElem_cons (by omega), List.drop_eq_nil_of_le (by omega)]
    rw [if_pos h0, hw, if_pos (by omega), if_pos (by omega), Int.toNat_natCast, ht, hg]
    by_cases hc : x.toList[x.size - 1]'(by omega) = 10
    · rw [hc, if_pos rfl, Option.bind_some, if_pos (by rfl), if_pos (by omega), if_pos (by omega)]
      rfl
    · rw [if_neg (fun e => hc (Option.some.inj e)), Option.bind_some, if_neg (by simpa using hc)]
      rfl
  · have hn : x.toList = [] := List.eq_nil_of_length_eq_zero (by omega)
    rw [if_neg h0, Option.bind_some, if_neg (show ¬ (false = true) by decide), Option.bind_some, hn, if_neg (show ¬ ([] : List UInt8).getLast? = some 10 by simp)]

/-- Lines behind a sign. -/
def rowB (sign x : ByteArray) : ByteArray := sign ++ bareL x ++ (⟨#[10]⟩ : ByteArray)
def putP (sign : ByteArray) : List ByteArray → ByteArray → ByteArray
  | [], s => s
  | x :: l, s => putP sign l (s ++ rowB sign x)
def szr (l : List ByteArray) : Nat := (l.map (fun x => x.size + 2)).sum
theorem szr_cons (x : ByteArray) (l : List ByteArray) : szr (x :: l) = x.size + 2 + szr l := rfl
theorem szr_append (l m : List ByteArray) : szr (l ++ m) = szr l + szr m := by
  unfold szr
  rw [List.map_append, List.sum_append]
theorem rowB_size (sign x : ByteArray) (hs : sign.size = 1) : (rowB sign x).size ≤ x.size + 2 := by
  have := bareL_size x
  unfold rowB
  rw [ByteArray.size_append, ByteArray.size_append, hs]
  show 1 + _ + 1 ≤ _
  omega
theorem putP_size (sign : ByteArray) (hs : sign.size = 1) : ∀ (l : List ByteArray) (s : ByteArray), (putP sign l s).size ≤ s.size + szr l
  | [], s => Nat.le_refl _
  | x :: l, s => by
    have h1 := putP_size sign hs l (s ++ rowB sign x)
    have h2 := rowB_size sign x hs
    rw [ByteArray.size_append] at h1
    rw [putP, szr_cons]
    omega
theorem put_f (sign : ByteArray) (hs : sign.size = 1) : ∀ (l : List ByteArray) (s : ByteArray), s.size + szr l ≤ 100000000 → diff_Show.put sign l s = some (putP sign l s)
  | [], s, _ => rfl
  | x :: l, s, h => by
    rw [szr_cons] at h
    have h1 := bareL_size x
    have h2 := rowB_size sign x hs
    rw [diff_Show.put, trim_f x (by omega), Option.bind_some, if_pos (by omega), putP]
    exact put_f sign hs l _ (by show (s ++ rowB sign x).size + _ ≤ _; rw [ByteArray.size_append]; omega)
def sg (l : List ByteArray) (i p : Nat) : List ByteArray := (l.take p).drop i
theorem sg_cons (l : List ByteArray) (i p : Nat) (h : i < p) (hp : p ≤ l.length) : sg l i p = (l[i]'(by omega)) :: sg l (i + 1) p := by
  unfold sg
  rw [List.drop_eq_getElem_cons (by rw [List.length_take]; omega), List.getElem_take]
theorem sg_nil {l : List ByteArray} {i p : Nat} (h : p ≤ i) : sg l i p = [] := by
  unfold sg
  exact List.drop_eq_nil_of_le (by rw [List.length_take]; omega)
theorem sg_split (l : List ByteArray) {a b : Nat} (h : a ≤ b) (hb : b ≤ l.length) : l.drop a = sg l a b ++ l.drop b := by
  unfold sg
  conv => lhs; rw [← List.take_append_drop b l]
  rw [List.drop_append_of_le_length (by rw [List.length_take]; omega)]
theorem szr_split (l : List ByteArray) {a b : Nat} (h : a ≤ b) (hb : b ≤ l.length) : szr (l.drop a) = szr (sg l a b) + szr (l.drop b) := by
  rw [sg_split l h hb, szr_append]
def mi : ByteArray := ⟨#[45]⟩
def pl : ByteArray := ⟨#[43]⟩
def sp1 : ByteArray := ⟨#[32]⟩
/-- What is told, pair by pair. -/
def shw (a b : List ByteArray) : List (Int × Int) → Nat → Nat → ByteArray → ByteArray
  | [], i, j, s => putP pl (sg b j b.length) (putP mi (sg a i a.length) s)
  | p :: L, i, j, s => shw a b L (p.1.toNat + 1) (p.2.toNat + 1) (putP sp1 (sg a p.1.toNat (p.1.toNat + 1)) (putP pl (sg b j p.2.toNat) (putP mi (sg a i p.1.toNat) s)))
/-- Pairs that rise from two places on. -/
def Rs (a b : List ByteArray) : List (Int × Int) → Nat → Nat → Prop
  | [], i, j => i ≤ a.length ∧ j ≤ b.length
  | p :: L, i, j => (i : Int) ≤ p.1 ∧ (j : Int) ≤ p.2 ∧ p.1 < a.length ∧ p.2 < b.length ∧ Rs a b L (p.1.toNat + 1) (p.2.toNat + 1)
theorem Rs.down {a b : List ByteArray} {L : List (Int × Int)} {i j i' j' : Nat} (h : Rs a b L i j) (hi : i' ≤ i) (hj : j' ≤ j) : Rs a b L i' j' := by
  cases L with
  | nil =>
    have h1 : i ≤ a.length := h.1
    have h2 : j ≤ b.length := h.2
    exact ⟨by omega, by omega⟩
  | cons p L =>
    obtain ⟨h1, h2, h3, h4, h5⟩ := h
    exact ⟨by omega, by omega, h3, h4, h5⟩
theorem prs_Rs (a b : List ByteArray) : ∀ k i j, i ≤ a.length → j ≤ b.length → Rs a b (prs a b k i j) i j
  | 0, i, j, hi, hj => ⟨hi, hj⟩
  | k + 1, i, j, hi, hj => by
    rw [prs]
    by_cases h : i < a.length ∧ j < b.length
    · rw [dif_pos h]
      by_cases e : (a[i]'h.1).toList = (b[j]'h.2).toList
      · rw [if_pos e]
        refine ⟨Int.le_refl _, Int.le_refl _, Int.ofNat_lt.mpr h.1, Int.ofNat_lt.mpr h.2, ?_⟩
        dsimp only
        rw [Int.toNat_natCast, Int.toNat_natCast]
        exact prs_Rs a b k (i + 1) (j + 1) (by omega) (by omega)
      · rw [if_neg e]
        by_cases g : cm a b i (j + 1) > cm a b (i + 1) j
        · rw [if_pos g]; exact (prs_Rs a b k i (j + 1) hi (by omega)).down (Nat.le_refl _) (by omega)
        · rw [if_neg g]; exact (prs_Rs a b k (i + 1) j (by omega) hj).down (by omega) (Nat.le_refl _)
    · rw [dif_neg h]
      exact ⟨hi, hj⟩
theorem cut_sg (l : List ByteArray) (i p : Nat) : diff_Show.cut l (i : Int) (p : Int) = sg l i p := by
  unfold diff_Show.cut sg
  rw [Int.toNat_natCast, Int.toNat_natCast]
theorem put_shw (a b : List ByteArray) : ∀ (L : List (Int × Int)) (i j : Nat) (s : ByteArray), Rs a b L i j → s.size + szr (a.drop i) + szr (b.drop j) ≤ 100000000 →
    diff_Show.go a b (L.map (fun x => (⟨x.1, x.2⟩ : S35)) ++ [(⟨(a.length : Int), (b.length : Int)⟩ : S35)]) (i : Int) (j : Int) s = some (shw a b L i j s)
  | [], i, j, s, h, hz => by
    have h1 : i ≤ a.length := h.1
    have h2 : j ≤ b.length := h.2
    have e1 := szr_split a h1 (Nat.le_refl _)
    have e2 := szr_split b h2 (Nat.le_refl _)
    have z1 := putP_size mi rfl (sg a i a.length) s
    rw [List.map_nil, List.nil_append, diff_Show.go, shw, if_pos (by dsimp only; omega)]
    dsimp only
    rw [cut_sg, cut_sg]
    have p1 : diff_Show.put (⟨#[45]⟩ : ByteArray) (sg a i a.length) s = some (putP mi (sg a i a.length) s) := put_f mi rfl _ _ (by omega)
    have p2 : diff_Show.put (⟨#[43]⟩ : ByteArray) (sg b j b.length) (putP mi (sg a i a.length) s) = some (putP pl (sg b j b.length) (putP mi (sg a i a.length) s)) := put_f pl rfl _ _ (by omega)
    rw [p1, Option.bind_some, p2, Option.bind_some, if_neg (by omega)]
    rfl
  | p :: L, i, j, s, h, hz => by
    obtain ⟨h1, h2, h3, h4, h5⟩ := h
    obtain ⟨p1, p2⟩ := p
    dsimp only at h1 h2 h3 h4 h5
    obtain ⟨u, rfl⟩ : ∃ u : Nat, p1 = (u : Int) := ⟨p1.toNat, by omega⟩
    obtain ⟨v, rfl⟩ : ∃ v : Nat, p2 = (v : Int) := ⟨p2.toNat, by omega⟩
    rw [Int.toNat_natCast, Int.toNat_natCast] at h5
    have e1 := szr_split a (show i ≤ u by omega) (show u ≤ a.length by omega)
    have e2 := szr_split b (show j ≤ v by omega) (show v ≤ b.length by omega)
    have e3 := szr_split a (show u ≤ u + 1 by omega) (show u + 1 ≤ a.length by omega)
    have e4 := szr_split b (show v ≤ v + 1 by omega) (show v + 1 ≤ b.length by omega)
    have z1 := putP_size mi rfl (sg a i u) s
    have z2 := putP_size pl rfl (sg b j v) (putP mi (sg a i u) s)
    have z3 := putP_size sp1 rfl (sg a u (u + 1)) (putP pl (sg b j v) (putP mi (sg a i u) s))
    rw [List.map_cons, List.cons_append, diff_Show.go, shw, if_pos (by dsimp only; omega)]
    dsimp only
    rw [cut_sg, cut_sg, Int.toNat_natCast, Int.toNat_natCast, show ((u : Int) + 1) = ((u + 1 : Nat) : Int) by omega, show ((v : Int) + 1) = ((v + 1 : Nat) : Int) by omega, cut_sg]
    have q1 : diff_Show.put (⟨#[45]⟩ : ByteArray) (sg a i u) s = some (putP mi (sg a i u) s) := put_f mi rfl _ _ (by omega)
    have q2 : diff_Show.put (⟨#[43]⟩ : ByteArray) (sg b j v) (putP mi (sg a i u) s) = some (putP pl (sg b j v) (putP mi (sg a i u) s)) := put_f pl rfl _ _ (by omega)
    have q3 : diff_Show.put (⟨#[32]⟩ : ByteArray) (sg a u (u + 1)) (putP pl (sg b j v) (putP mi (sg a i u) s)) = some (putP sp1 (sg a u (u + 1)) (putP pl (sg b j v) (putP mi (sg a i u) s))) := put_f sp1 rfl _ _ (by omega)
    rw [q1, Option.bind_some, q2, Option.bind_some, if_pos h3, q3, Option.bind_some]
    exact put_shw a b L (u + 1) (v + 1) _ h5 (by omega)

theorem rdP (L : List (Int × Int)) (i : Nat) (hlt : i < L.length) : rd_T34 (L.map (fun x => (⟨x.1, x.2⟩ : S34))) (i : Int) = ⟨(L[i]'hlt).1, (L[i]'hlt).2⟩ := by
  unfold rd_T34
  rw [Int.toNat_natCast, List.getD, List.getElem?_eq_getElem (by rw [List.length_map]; exact hlt), Option.getD_some, List.getElem_map]
section
variable {a b : List ByteArray} (ha : a.length ≤ 1000) (hb : b.length ≤ 1000) {Q : List S34} {R : ByteArray}
theorem row_cut (sign x s : ByteArray) (hs : sign.size = 1) (h : s.size + (x.size + 2) ≤ 100000000) : 1 + (bareL x).size ≤ 9223372036854775807 ∧ (1 + (bareL x).size) + 1 ≤ 9223372036854775807 ∧ s.size + ((1 + (bareL x).size) + 1) ≤ 9223372036854775807 := by
  have := bareL_size x
  omega
include ha in
theorem show_l1 {j t : Int} {q : Int} : ∀ (n i p : Nat) (s : ByteArray), p - i = n → i ≤ p → p ≤ a.length → s.size + szr (sg a i p) ≤ 100000000 →
    Ev (fun k => pollardref18_Show.l2 k a b Q (putP mi (sg a i p) s) (p : Int) j t (p : Int) q) R → Ev (fun k => pollardref18_Show.l1 k a b Q s (i : Int) j t (p : Int) q) R := by
  intro n
  induction n with
  | zero =>
    intro i p s hn hi hp hz h
    obtain rfl : i = p := by omega
    rw [sg_nil (Nat.le_refl _)] at h
    refine Ev.step (fun k => ?_) h
    simp only [pollardref18_Show.l1]
    rw [if_neg (by omega)]
    rfl
  | succ n ih =>
    intro i p s hn hi hp hz h
    have hlt : i < a.length := by omega
    rw [sg_cons a i p (by omega) hp] at h hz
    rw [szr_cons] at hz
    have hr := rowB_size mi (a[i]'hlt) rfl
    obtain ⟨g1, g2, g3⟩ := row_cut mi (a[i]'hlt) s rfl (by omega)
    refine Ev.step (fun k => ?_) (ih (i + 1) p (s ++ rowB mi (a[i]'hlt)) (by omega) (by omega) hp (by rw [ByteArray.size_append]; omega) h)
    simp only [pollardref18_Show.l1]
    rw [if_pos (by omega), if_pos (by omega), if_pos (by omega), rdOf_at a i hlt, bare_f _ (by omega), Option.bind_some, if_pos g1, if_pos g2, if_pos g3, w64s (by omega)]
    rfl
include hb in
theorem show_l2 {i t : Int} {p : Int} : ∀ (n j q : Nat) (s : ByteArray), q - j = n → j ≤ q → q ≤ b.length → s.size + szr (sg b j q) ≤ 100000000 →
    Ev (fun k => pollardref18_Show.l2 k a b Q (putP pl (sg b j q) s) i (q : Int) t p (q : Int)) R → Ev (fun k => pollardref18_Show.l2 k a b Q s i (j : Int) t p (q : Int)) R := by
  intro n
  induction n with
  | zero =>
    intro j q s hn hj hq hz h
    obtain rfl : j = q := by omega
    rw [sg_nil (Nat.le_refl _)] at h
    exact h
  | succ n ih =>
    intro j q s hn hj hq hz h
    have hlt : j < b.length := by omega
    rw [sg_cons b j q (by omega) hq] at h hz
    rw [szr_cons] at hz
    have hr := rowB_size pl (b[j]'hlt) rfl
    obtain ⟨g1, g2, g3⟩ := row_cut pl (b[j]'hlt) s rfl (by omega)
    refine Ev.step (fun k => ?_) (ih (j + 1) q (s ++ rowB pl (b[j]'hlt)) (by omega) (by omega) hq (by rw [ByteArray.size_append]; omega) h)
    simp only [pollardref18_Show.l2]
    rw [if_pos (by omega), if_pos (by omega), if_pos (by omega), rdOf_at b j hlt, bare_f _ (by omega), Option.bind_some, if_pos g1, if_pos g2, if_pos g3, w64s (by omega)]
    rfl
end
theorem ref_shw (a b : List ByteArray) (ha : a.length ≤ 1000) (hb : b.length ≤ 1000) (P : List (Int × Int)) (hP : P.length ≤ 1000) : ∀ (n t i j : Nat) (s : ByteArray), P.length - t = n → t ≤ P.length → Rs a b (P.drop t) i j → s.size + szr (a.drop i) + szr (b.drop j) ≤ 100000000 →
    Ev (fun k => pollardref18_Show.l0 k a b (P.map (fun x => (⟨x.1, x.2⟩ : S34))) s (i : Int) (j : Int) (t : Int)) (shw a b (P.drop t) i j s) := by
  intro n
  induction n with
  | zero =>
    intro t i j s hn ht h hz
    obtain rfl : t = P.length := by omega
    rw [List.drop_length] at h ⊢
    have h1 : i ≤ a.length := h.1
    have h2 : j ≤ b.length := h.2
    have e1 := szr_split a h1 (Nat.le_refl _)
    have e2 := szr_split b h2 (Nat.le_refl _)
    have z1 := putP_size mi rfl (sg a i a.length) s
    refine Ev.step (f := fun k => pollardref18_Show.j1 k a b (P.map (fun x => (⟨x.1, x.2⟩ : S34))) s (i : Int) (j : Int) (P.length : Int) (a.length : Int) (b.length : Int)) (fun k => ?_) ?_
    · simp only [pollardref18_Show.l0, List.length_map]
      rw [if_pos (by omega), if_neg (by omega)]
    refine Ev.step (f := fun k => pollardref18_Show.l1 k a b (P.map (fun x => (⟨x.1, x.2⟩ : S34))) s (i : Int) (j : Int) (P.length : Int) (a.length : Int) (b.length : Int)) (fun k => ?_) ?_
    · simp only [pollardref18_Show.j1]
    refine show_l1 ha (a.length - i) i a.length s rfl h1 (Nat.le_refl _) (by omega) ?_
    refine show_l2 hb (b.length - j) j b.length _ rfl h2 (Nat.le_refl _) (by omega) ?_
    refine Ev.step (f := fun k => pollardref18_Show.l0 k a b (P.map (fun x => (⟨x.1, x.2⟩ : S34))) (shw a b [] i j s) ((a.length + 1 : Nat) : Int) ((b.length + 1 : Nat) : Int) ((P.length + 1 : Nat) : Int)) (fun k => ?_) ?_
    · simp only [pollardref18_Show.l2, List.length_map]
      rw [if_neg (by omega), if_neg (by omega), w64s (by omega), w64s (by omega), w64s (by omega)]
      rfl
    · refine Ev.step (f := fun _ => some (shw a b [] i j s)) (fun k => ?_) (Ev.now _)
      simp only [pollardref18_Show.l0, List.length_map]
      rw [if_neg (by omega)]
  | succ n ih =>
    intro t i j s hn ht h hz
    have hlt : t < P.length := by omega
    have hr := rdP P t hlt
    rw [List.drop_eq_getElem_cons hlt] at h ⊢
    obtain ⟨⟨p1, p2⟩, hp⟩ : ∃ p, P[t]'hlt = p := ⟨_, rfl⟩
    rw [hp] at h hr ⊢
    obtain ⟨h1, h2, h3, h4, h5⟩ := h
    dsimp only at h1 h2 h3 h4 h5 hr
    obtain ⟨u, rfl⟩ : ∃ u : Nat, p1 = (u : Int) := ⟨p1.toNat, by omega⟩
    obtain ⟨v, rfl⟩ : ∃ v : Nat, p2 = (v : Int) := ⟨p2.toNat, by omega⟩
    rw [Int.toNat_natCast, Int.toNat_natCast] at h5
    have hu : u < a.length := by omega
    have e1 := szr_split a (show i ≤ u by omega) (show u ≤ a.length by omega)
    have e2 := szr_split b (show j ≤ v by omega) (show v ≤ b.length by omega)
    have e3 := szr_split a (show u ≤ u + 1 by omega) (show u + 1 ≤ a.length by omega)
    have e4 := szr_split b (show v ≤ v + 1 by omega) (show v + 1 ≤ b.length by omega)
    have e5 : sg a u (u + 1) = [a[u]'hu] := by rw [sg_cons a u (u + 1) (by omega) (by omega), sg_nil (Nat.le_refl _)]
    have e6 : szr (sg a u (u + 1)) = (a[u]'hu).size + 2 := by rw [e5]; rfl
    have z1 := putP_size mi rfl (sg a i u) s
    have z2 := putP_size pl rfl (sg b j v) (putP mi (sg a i u) s)
    have z3 := putP_size sp1 rfl (sg a u (u + 1)) (putP pl (sg b j v) (putP mi (sg a i u) s))
    have hgo := ih (t + 1) (u + 1) (v + 1) (putP sp1 (sg a u (u + 1)) (putP pl (sg b j v) (putP mi (sg a i u) s))) (by omega) (by omega) h5 (by omega)
    rw [shw]
    dsimp only
    rw [Int.toNat_natCast, Int.toNat_natCast]
    refine Ev.step (f := fun k => pollardref18_Show.j1 k a b (P.map (fun x => (⟨x.1, x.2⟩ : S34))) s (i : Int) (j : Int) (t : Int) (u : Int) (v : Int)) (fun k => ?_) ?_
    · simp only [pollardref18_Show.l0, List.length_map]
      rw [if_pos (by omega), if_pos (by omega), if_pos (by omega), hr]
    refine Ev.step (f := fun k => pollardref18_Show.l1 k a b (P.map (fun x => (⟨x.1, x.2⟩ : S34))) s (i : Int) (j : Int) (t : Int) (u : Int) (v : Int)) (fun k => ?_) ?_
    · simp only [pollardref18_Show.j1]
    refine show_l1 ha (u - i) i u s rfl (by omega) (by omega) (by omega) ?_
    refine show_l2 hb (v - j) j v _ rfl (by omega) (by omega) (by omega) ?_
    obtain ⟨g1, g2, g3⟩ := row_cut sp1 (a[u]'hu) (putP pl (sg b j v) (putP mi (sg a i u) s)) rfl (by omega)
    refine Ev.step (fun k => ?_) hgo
    simp only [pollardref18_Show.l2, List.length_map]
    rw [if_neg (by omega), if_pos (by omega), if_pos (by omega), if_pos (by omega), rdOf_at a u hu, bare_f _ (by omega), Option.bind_some, if_pos g1, if_pos g2, if_pos g3, w64s (by omega), w64s (by omega), w64s (by omega), e5]
    rfl
theorem szr_le (l : List ByteArray) : szr l = (l.map (·.size)).sum + 2 * l.length := by
  induction l with
  | nil => rfl
  | cons x l ih => rw [szr_cons, ih, List.map_cons, List.sum_cons, List.length_cons]; omega
theorem sum_take (l : List ByteArray) (n : Nat) : ((l.take n).map (·.size)).sum ≤ (l.map (·.size)).sum := by
  conv => rhs; rw [← List.take_append_drop n l, List.map_append, List.sum_append]
  exact Nat.le_add_right _ _
theorem cut18s (l : List ByteArray) : ∃ a, pollardlaw18_Cut.f l = some a ∧ a.length ≤ 30 ∧ (a.map (·.size)).sum ≤ (l.map (·.size)).sum := by
  unfold pollardlaw18_Cut.f
  by_cases h : (l.length : Int) > 30
  · rw [if_pos h, if_pos (by omega)]
    exact ⟨_, rfl, by rw [List.length_take]; omega, sum_take l _⟩
  · rw [if_neg h]
    exact ⟨_, rfl, by omega, Nat.le_refl _⟩
end Go.Proofs.YtflogdjehghkpaaDoor.Pl
