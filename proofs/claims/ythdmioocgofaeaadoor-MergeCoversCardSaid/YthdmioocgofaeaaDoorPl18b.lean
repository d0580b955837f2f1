/- The lines that two texts have in common: how many at most, the table of it, and the walk along it; in plain Lean. -/
import Derived.Test.YthdmioocgofaeaaDoorPlBytes
import Derived.Test.YthdmioocgofaeaaDoorMx2
namespace Go.Proofs.YthdmioocgofaeaaDoor.Pl
set_option linter.unusedVariables false
set_option linter.unusedSimpArgs false
open Go.RowKit Go.Proofs.YthdmioocgofaeaaDoor.M Go.Proofs.YthdmioocgofaeaaDoorW.PrintWords Go.Proofs.YthdmioocgofaeaaDoorW.PrintLast

/-- How many lines two texts have in common, at most. -/
def com : List ByteArray → List ByteArray → Nat
  | [], _ => 0
  | _ :: _, [] => 0
  | x :: a, y :: b => if x.toList = y.toList then com a b + 1 else max (com a (y :: b)) (com (x :: a) b)
termination_by a b => a.length + b.length

theorem com_nil (a : List ByteArray) : com a [] = 0 := by cases a <;> simp [com]
theorem com_symm : ∀ (n : Nat) (a b : List ByteArray), a.length + b.length ≤ n → com a b = com b a := by
  intro n
  induction n with
  | zero =>
    intro a b h
    obtain rfl : a = [] := List.eq_nil_of_length_eq_zero (by omega)
    rw [com_nil]
    simp [com]
  | succ n ih =>
    intro a b h
    match a, b with
    | [], b => rw [com_nil]; simp [com]
    | x :: a, [] => rw [com_nil]; simp [com]
    | x :: a, y :: b =>
      simp only [List.length_cons] at h
      rw [com, com]
      by_cases e : x.toList = y.toList
      · rw [if_pos e, if_pos e.symm, ih a b (by omega)]
      · rw [if_neg e, if_neg (fun e' => e e'.symm), ih a (y :: b) (by simp only [List.length_cons]; omega), ih (x :: a) b (by simp only [List.length_cons]; omega), Nat.max_comm]

theorem com_steps : ∀ (n : Nat), (∀ x a b, a.length + b.length ≤ n → com a b ≤ com (x :: a) b) ∧ (∀ y a b, a.length + b.length ≤ n → com a (y :: b) ≤ com a b + 1) := by
  intro n
  induction n with
  | zero =>
    constructor
    · intro x a b h
      obtain rfl : a = [] := List.eq_nil_of_length_eq_zero (by omega)
      simp [com]
    · intro y a b h
      obtain rfl : a = [] := List.eq_nil_of_length_eq_zero (by omega)
      simp [com]
  | succ n ih =>
    obtain ⟨ih1, ih2⟩ := ih
    have m1 : ∀ x a b, a.length + b.length ≤ n + 1 → com a b ≤ com (x :: a) b := by
      intro x a b h
      match b with
      | [] => rw [com_nil]; omega
      | y :: b =>
        simp only [List.length_cons] at h
        rw [com]
        by_cases e : x.toList = y.toList
        · rw [if_pos e]
          exact ih2 y a b (by omega)
        · rw [if_neg e]
          exact Nat.le_max_left _ _
    refine ⟨m1, ?_⟩
    intro y a b h
    match a with
    | [] => simp [com]
    | x :: a =>
      simp only [List.length_cons] at h
      rw [com]
      by_cases e : x.toList = y.toList
      · rw [if_pos e]
        have := m1 x a b (by omega)
        omega
      · rw [if_neg e]
        have h1 := ih2 y a b (by omega)
        have h2 := ih1 x a b (by omega)
        exact Nat.max_le.mpr ⟨by omega, by omega⟩

theorem com_up1 (x : ByteArray) (a b : List ByteArray) : com a b ≤ com (x :: a) b := (com_steps _).1 x a b (Nat.le_refl _)
theorem com_up2 (y : ByteArray) (a b : List ByteArray) : com a b ≤ com a (y :: b) := by
  rw [com_symm _ a b (Nat.le_refl _), com_symm _ a (y :: b) (Nat.le_refl _)]
  exact com_up1 y b a
theorem com_at2 (y : ByteArray) (a b : List ByteArray) : com a (y :: b) ≤ com a b + 1 := (com_steps _).2 y a b (Nat.le_refl _)
theorem com_at1 (x : ByteArray) (a b : List ByteArray) : com (x :: a) b ≤ com a b + 1 := by
  rw [com_symm _ a b (Nat.le_refl _), com_symm _ (x :: a) b (Nat.le_refl _)]
  exact com_at2 x b a
theorem com_le1 : ∀ (a b : List ByteArray), com a b ≤ a.length
  | [], b => by simp [com]
  | x :: a, b => by
    have h1 := com_at1 x a b
    have h2 := com_le1 a b
    rw [List.length_cons]; omega

/-- What is left of two texts from two places on. -/
def cm (a b : List ByteArray) (i j : Nat) : Int := (com (a.drop i) (b.drop j) : Int)
theorem cm_same {a b : List ByteArray} {i j : Nat} (hi : i < a.length) (hj : j < b.length) (e : (a[i]'hi).toList = (b[j]'hj).toList) : cm a b i j = cm a b (i + 1) (j + 1) + 1 := by
  unfold cm
  rw [List.drop_eq_getElem_cons hi, List.drop_eq_getElem_cons hj, com, if_pos e]
  omega
theorem cm_else {a b : List ByteArray} {i j : Nat} (hi : i < a.length) (hj : j < b.length) (e : ¬ (a[i]'hi).toList = (b[j]'hj).toList) : cm a b i j = max (cm a b (i + 1) j) (cm a b i (j + 1)) := by
  unfold cm
  rw [List.drop_eq_getElem_cons hi, List.drop_eq_getElem_cons hj, com, if_neg e]
  omega
theorem cm_end1 {a b : List ByteArray} {i j : Nat} (hi : a.length ≤ i) : cm a b i j = 0 := by
  unfold cm
  rw [List.drop_eq_nil_of_le hi]
  simp [com]
theorem cm_end2 {a b : List ByteArray} {i j : Nat} (hj : b.length ≤ j) : cm a b i j = 0 := by
  unfold cm
  rw [List.drop_eq_nil_of_le hj, com_nil]
  rfl
theorem cm_range {a b : List ByteArray} (i j : Nat) : 0 ≤ cm a b i j ∧ cm a b i j ≤ a.length := by
  unfold cm
  have h := com_le1 (a.drop i) (b.drop j)
  rw [List.length_drop] at h
  omega
theorem cm_at1 {a b : List ByteArray} {i j : Nat} (hi : i < a.length) : cm a b i j ≤ cm a b (i + 1) j + 1 := by
  unfold cm
  rw [List.drop_eq_getElem_cons hi]
  have := com_at1 (a[i]'hi) (a.drop (i + 1)) (b.drop j)
  omega
theorem cm_at2 {a b : List ByteArray} {i j : Nat} (hj : j < b.length) : cm a b i j ≤ cm a b i (j + 1) + 1 := by
  unfold cm
  rw [List.drop_eq_getElem_cons hj]
  have := com_at2 (b[j]'hj) (a.drop i) (b.drop (j + 1))
  omega

/-- A table that is right from the place n on, and at its ends. -/
def Tab (a b : List ByteArray) (t : List Int) (n : Nat) : Prop :=
  t.length = (a.length + 1) * (b.length + 1) ∧ ∀ p q, p ≤ a.length → q ≤ b.length → (n ≤ p * (b.length + 1) + q ∨ p = a.length ∨ q = b.length) → t[p * (b.length + 1) + q]? = some (cm a b p q)

theorem place_lt {a b : List ByteArray} {p q : Nat} (hp : p ≤ a.length) (hq : q ≤ b.length) : p * (b.length + 1) + q < (a.length + 1) * (b.length + 1) := by
  have h := Nat.mul_le_mul_right (b.length + 1) hp
  rw [Nat.add_mul, Nat.one_mul]
  omega
theorem place_inj {m p q i j : Nat} (hq : q < m) (hj : j < m) (h : p * m + q = i * m + j) : p = i ∧ q = j := by
  have hp : (p * m + q) / m = p := by
    rw [Nat.mul_comm, Nat.mul_add_div (by omega), Nat.div_eq_of_lt hq, Nat.add_zero]
  have hi : (i * m + j) / m = i := by
    rw [Nat.mul_comm, Nat.mul_add_div (by omega), Nat.div_eq_of_lt hj, Nat.add_zero]
  have e : p = i := by rw [← hp, h, hi]
  subst e
  exact ⟨rfl, by omega⟩
theorem Tab.new (a b : List ByteArray) : Tab a b (List.replicate ((a.length + 1) * (b.length + 1)) 0) ((a.length + 1) * (b.length + 1)) := by
  refine ⟨List.length_replicate, fun p q hp hq h => ?_⟩
  have hl := place_lt hp hq
  rw [List.getElem?_replicate, if_pos hl]
  rcases h with h | h | h
  · omega
  · rw [cm_end1 (by omega)]
  · rw [cm_end2 (by omega)]
theorem Tab.skip {a b : List ByteArray} {t : List Int} {n : Nat} (h : Tab a b t (n + 1)) (hn : ∀ p q, p < a.length → q < b.length → p * (b.length + 1) + q ≠ n) : Tab a b t n := by
  refine ⟨h.1, fun p q hp hq hh => h.2 p q hp hq ?_⟩
  by_cases h1 : p = a.length
  · exact .inr (.inl h1)
  by_cases h2 : q = b.length
  · exact .inr (.inr h2)
  have := hn p q (by omega) (by omega)
  omega
theorem Tab.put {a b : List ByteArray} {t : List Int} {i j : Nat} {v : Int} (h : Tab a b t (i * (b.length + 1) + j + 1)) (hi : i < a.length) (hj : j < b.length) (hv : v = cm a b i j) : Tab a b (t.set (i * (b.length + 1) + j) v) (i * (b.length + 1) + j) := by
  refine ⟨by rw [List.length_set]; exact h.1, fun p q hp hq hh => ?_⟩
  by_cases e : i * (b.length + 1) + j = p * (b.length + 1) + q
  · obtain ⟨rfl, rfl⟩ := place_inj (m := b.length + 1) (by omega) (by omega) e
    rw [List.getElem?_set, if_pos rfl, if_pos (by rw [h.1]; exact place_lt hp hq), hv]
  · rw [List.getElem?_set, if_neg e]
    exact h.2 p q hp hq (by omega)
theorem Tab.at {a b : List ByteArray} {t : List Int} {n p q : Nat} (h : Tab a b t n) (hp : p ≤ a.length) (hq : q ≤ b.length) (hn : n ≤ p * (b.length + 1) + q ∨ p = a.length ∨ q = b.length) (x : Int) (hx : x = ((p * (b.length + 1) + q : Nat) : Int)) : 0 ≤ x ∧ x < (t.length : Int) ∧ rd t x = cm a b p q := by
  have h1 := h.2 p q hp hq hn
  have h2 := (List.getElem?_eq_some_iff.mp h1).1
  refine ⟨by omega, by omega, ?_⟩
  subst hx
  unfold rd
  rw [List.getD, Int.toNat_natCast, h1]
  rfl

/-- The pairs from two places on. -/
def prs (a b : List ByteArray) : Nat → Nat → Nat → List (Int × Int)
  | 0, _, _ => []
  | k + 1, i, j => if h : i < a.length ∧ j < b.length then (if (a[i]'h.1).toList = (b[j]'h.2).toList then ((i : Int), (j : Int)) :: prs a b k (i + 1) (j + 1) else if cm a b i (j + 1) > cm a b (i + 1) j then prs a b k i (j + 1) else prs a b k (i + 1) j) else []
theorem prs_length (a b : List ByteArray) : ∀ k i j, a.length + b.length < i + j + k → ((prs a b k i j).length : Int) = cm a b i j
  | 0, i, j, hk => by
    by_cases hi : a.length ≤ i
    · rw [cm_end1 hi]; rfl
    · rw [cm_end2 (by omega)]; rfl
  | k + 1, i, j, hk => by
    rw [prs]
    by_cases h : i < a.length ∧ j < b.length
    · rw [dif_pos h]
      by_cases e : (a[i]'h.1).toList = (b[j]'h.2).toList
      · rw [if_pos e, cm_same h.1 h.2 e, List.length_cons]
        have := prs_length a b k (i + 1) (j + 1) (by omega)
        omega
      · rw [if_neg e, cm_else h.1 h.2 e]
        by_cases g : cm a b i (j + 1) > cm a b (i + 1) j
        · rw [if_pos g, prs_length a b k i (j + 1) (by omega)]
          omega
        · rw [if_neg g, prs_length a b k (i + 1) j (by omega)]
          omega
    · rw [dif_neg h]
      by_cases hi : a.length ≤ i
      · rw [cm_end1 hi]; rfl
      · rw [cm_end2 (by omega)]; rfl
/-- They rise in both, and are the same lines. -/
theorem prs_rise (a b : List ByteArray) : ∀ k i j, ∀ m (x : Int × Int), (prs a b k i j)[m]? = some x → (i : Int) ≤ x.1 ∧ (j : Int) ≤ x.2 ∧ x.1 < a.length ∧ x.2 < b.length ∧ (rdOf ByteArray.empty a x.1).toList = (rdOf ByteArray.empty b x.2).toList ∧ ∀ y, (prs a b k i j)[m + 1]? = some y → x.1 < y.1 ∧ x.2 < y.2
  | 0, i, j, m, x, hm => by simp [prs] at hm
  | k + 1, i, j, m, x, hm => by
    rw [prs] at hm ⊢
    by_cases h : i < a.length ∧ j < b.length
    · rw [dif_pos h] at hm ⊢
      by_cases e : (a[i]'h.1).toList = (b[j]'h.2).toList
      · rw [if_pos e] at hm ⊢
        cases m with
        | zero =>
          have hm := Option.some.inj hm
          subst hm
          refine ⟨Int.le_refl _, Int.le_refl _, by omega, by omega, ?_, fun y hy => ?_⟩
          · show (a.getD ((i : Int).toNat) _).toList = (b.getD ((j : Int).toNat) _).toList
            simp only [Int.toNat_natCast, List.getD, List.getElem?_eq_getElem h.1, List.getElem?_eq_getElem h.2, Option.getD_some]
            exact e
          · obtain ⟨h1, h2, _⟩ := prs_rise a b k (i + 1) (j + 1) 0 y hy
            exact ⟨by show (i : Int) < y.1; omega, by show (j : Int) < y.2; omega⟩
        | succ m =>
          obtain ⟨h1, h2, h3, h4, h5, h6⟩ := prs_rise a b k (i + 1) (j + 1) m x hm
          exact ⟨by omega, by omega, h3, h4, h5, h6⟩
      · rw [if_neg e] at hm ⊢
        by_cases g : cm a b i (j + 1) > cm a b (i + 1) j
        · rw [if_pos g] at hm ⊢
          obtain ⟨h1, h2, h3, h4, h5, h6⟩ := prs_rise a b k i (j + 1) m x hm
          exact ⟨by omega, by omega, h3, h4, h5, h6⟩
        · rw [if_neg g] at hm ⊢
          obtain ⟨h1, h2, h3, h4, h5, h6⟩ := prs_rise a b k (i + 1) j m x hm
          exact ⟨by omega, by omega, h3, h4, h5, h6⟩
    · rw [dif_neg h] at hm
      simp at hm
end Go.Proofs.YthdmioocgofaeaaDoor.Pl
