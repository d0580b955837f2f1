/- The program's walk for the lines in common, and the document's, come to the plain ones. -/
import Derived.Test.YthdmioocgofaeaaDoorPl18b
namespace Go.Proofs.YthdmioocgofaeaaDoor.Pl
set_option linter.unusedVariables false
set_option linter.unusedSimpArgs false
open Go.RowKit Go.Proofs.YthdmioocgofaeaaDoor.M Go.Proofs.YthdmioocgofaeaaDoorW.PrintWords Go.Proofs.YthdmioocgofaeaaDoorW.PrintLast

theorem Tab.start (a b : List ByteArray) : Tab a b (List.replicate ((a.length + 1) * (b.length + 1)) 0) (a.length * (b.length + 1)) := by
  refine ⟨List.length_replicate, fun p q hp hq h => (Tab.new a b).2 p q hp hq ?_⟩
  rcases h with h | h
  · refine .inr ?_
    by_cases hp : p = a.length
    · exact .inl hp
    · have := Nat.mul_le_mul_right (b.length + 1) (show p + 1 ≤ a.length by omega)
      rw [Nat.add_mul, Nat.one_mul] at this
      omega
  · exact .inr h
theorem Tab.down {a b : List ByteArray} {t : List Int} {m : Nat} (h : Tab a b t ((m + 1) * (b.length + 1))) : Tab a b t (m * (b.length + 1) + b.length) := by
  refine Tab.skip (n := m * (b.length + 1) + b.length) ?_ (fun p q hp hq e => ?_)
  · have e : m * (b.length + 1) + b.length + 1 = (m + 1) * (b.length + 1) := by rw [Nat.add_mul, Nat.one_mul]; omega
    rw [e]
    exact h
  · have := place_inj (m := b.length + 1) (by omega) (by omega) e
    omega
theorem mx_max (x y : Int) : mx x y = max x y := by
  unfold mx
  omega
theorem w64n {n : Nat} (h : n ≤ 100000000) : wrap64 (n : Int) = (n : Int) := w64 (by omega) (by omega)
theorem w64s {n : Nat} (h : n ≤ 100000000) : wrap64 ((n : Int) + 1) = ((n + 1 : Nat) : Int) := (w64 (by omega) (by omega)).trans (by omega)
theorem w64p {n : Nat} (h : n ≤ 100000000) : wrap64 ((n : Int) - 1) = (n : Int) - 1 := w64 (by omega) (by omega)
theorem w64v {x : Int} {n : Nat} (h : 0 ≤ x ∧ x ≤ n) (hn : n ≤ 100000000) : wrap64 (x + 1) = x + 1 := w64 (by omega) (by omega)
theorem ix {a b : List ByteArray} (hM : (a.length + 1) * (b.length + 1) ≤ 1000000) {p q : Nat} (hp : p ≤ a.length) (hq : q ≤ b.length) : wrap64 (wrap64 ((p : Int) * ((b.length + 1 : Nat) : Int)) + (q : Int)) = ((p * (b.length + 1) + q : Nat) : Int) := by
  have h := place_lt hp hq
  rw [← Int.natCast_mul, w64n (by omega), ← Int.natCast_add, w64n (by omega)]
theorem ix1 {a b : List ByteArray} (hM : (a.length + 1) * (b.length + 1) ≤ 1000000) {p q : Nat} (hp : p ≤ a.length) (hq : q < b.length) : wrap64 (wrap64 (wrap64 ((p : Int) * ((b.length + 1 : Nat) : Int)) + (q : Int)) + 1) = ((p * (b.length + 1) + (q + 1) : Nat) : Int) := by
  have h := place_lt hp (show q + 1 ≤ b.length from hq)
  rw [ix hM hp (Nat.le_of_lt hq), w64s (by omega)]
  rfl
theorem best_same {m s u v c : Int} (hm : m = max u v) (b1 : u ≤ c + 1) (b2 : v ≤ c + 1) (hs : s = c + 1) (hg : ¬ c + 1 > m) : m = s := by omega
theorem next_row (i m : Nat) : i * m + m = (i + 1) * m := (Nat.succ_mul i m).symm
theorem nn (n : Nat) : (0 : Int) ≤ (n : Int) := Int.natCast_nonneg n
theorem nl {m n : Nat} (h : m < n) : (m : Int) < (n : Int) := Int.ofNat_lt.mpr h
theorem rdOf_at (l : List ByteArray) (i : Nat) (h : i < l.length) : rdOf ByteArray.empty l (i : Int) = l[i]'h := by
  unfold rdOf
  rw [Int.toNat_natCast, List.getD, List.getElem?_eq_getElem h]
  rfl

section
variable {a b : List ByteArray} (hM : (a.length + 1) * (b.length + 1) ≤ 1000000) (ha : a.length ≤ 1000000) (hb : b.length ≤ 1000000)
include hM ha hb

theorem prog_row {R : List S43 × Int} {i : Nat} (hi : i < a.length) (next : ∀ t', Tab a b t' (i * (b.length + 1)) → Ev (fun k => diff_Pairs.l0 k a b ((b.length + 1 : Nat) : Int) t' ((i : Int) - 1)) R) :
    ∀ (n : Nat) (t : List Int), n ≤ b.length → Tab a b t (i * (b.length + 1) + n) → Ev (fun k => diff_Pairs.l1 k a b ((b.length + 1 : Nat) : Int) t (i : Int) ((n : Int) - 1)) R := by
  intro n
  induction n with
  | zero =>
    intro t _ ht
    refine Ev.step (f := fun k => diff_Pairs.l0 k a b ((b.length + 1 : Nat) : Int) t ((i : Int) - 1)) (fun k => ?_) (next t ht)
    simp only [diff_Pairs.l1]
    rw [if_neg (by omega), w64 (by omega) (by omega)]
  | succ n ih =>
    intro t hn ht
    have hj : n < b.length := hn
    have hia : i + 1 ≤ a.length := hi
    have hup := next_row i (b.length + 1)
    have g1 : i * (b.length + 1) + (n + 1) ≤ (i + 1) * (b.length + 1) + n := by omega
    have g2 : i * (b.length + 1) + (n + 1) ≤ (i + 1) * (b.length + 1) + (n + 1) := by omega
    have hx : ((n + 1 : Nat) : Int) - 1 = (n : Int) := by omega
    rw [hx]
    have hw := w64s (n := i) (by omega)
    have hj2 := w64p (n := n) (by omega)
    have e0 := ix hM (Nat.le_of_lt hi) (Nat.le_of_lt hj)
    have e1 := ix hM hia (Nat.le_of_lt hj)
    have e2 := ix1 hM (Nat.le_of_lt hi) hj
    have e3 := ix1 hM hia hj
    have l1 := nl (place_lt (Nat.le_of_lt hi) (Nat.le_of_lt hj))
    rw [← ht.1] at l1
    obtain ⟨r1, r2, r3⟩ := ht.at hia (Nat.le_of_lt hj) (.inl g1) _ rfl
    obtain ⟨s1, s2, s3⟩ := ht.at (Nat.le_of_lt hi) hj (.inl (Nat.le_refl _)) _ rfl
    obtain ⟨u1, u2, u3⟩ := ht.at hia hj (.inl g2) _ rfl
    have c1 := w64v (cm_range (a := a) (b := b) (i + 1) (n + 1)) (by omega)
    by_cases hc : (a[i]'hi).toList = (b[n]'hj).toList
    · have hp := ht.put hi hj (cm_same hi hj hc).symm
      refine Ev.step (f := fun k => diff_Pairs.l1 k a b ((b.length + 1 : Nat) : Int) (t.set (i * (b.length + 1) + n) (cm a b (i + 1) (n + 1) + 1)) (i : Int) ((n : Int) - 1)) (fun k => ?_) (ih _ (Nat.le_of_lt hn) hp)
      simp only [diff_Pairs.l1]
      rw [if_pos (nn n), if_pos (nn i), if_pos (nl hi), if_pos (nn n), if_pos (nl hj), rdOf_at a i hi, rdOf_at b n hj, if_pos hc, hw, e3, if_pos u1, if_pos u2, e0, if_pos (nn _), if_pos l1, u3, Int.toNat_natCast, hj2, c1]
    · have hp := ht.put hi hj (cm_else hi hj hc).symm
      refine Ev.step (f := fun k => diff_Pairs.l1 k a b ((b.length + 1 : Nat) : Int) (t.set (i * (b.length + 1) + n) (max (cm a b (i + 1) n) (cm a b i (n + 1)))) (i : Int) ((n : Int) - 1)) (fun k => ?_) (ih _ (Nat.le_of_lt hn) hp)
      simp only [diff_Pairs.l1]
      rw [if_pos (nn n), if_pos (nn i), if_pos (nl hi), if_pos (nn n), if_pos (nl hj), rdOf_at a i hi, rdOf_at b n hj, if_neg hc, hw, e1, if_pos r1, if_pos r2, e2, if_pos s1, if_pos s2, e0, if_pos (nn _), if_pos l1, r3, s3, Int.toNat_natCast, hj2, mx_max]

theorem prog_rows {R : List S43 × Int} (next : ∀ t', Tab a b t' 0 → Ev (fun k => diff_Pairs.l2 k a b ((b.length + 1 : Nat) : Int) t' [] 0 0) R) :
    ∀ (m : Nat) (t : List Int), m ≤ a.length → Tab a b t (m * (b.length + 1)) → Ev (fun k => diff_Pairs.l0 k a b ((b.length + 1 : Nat) : Int) t ((m : Int) - 1)) R := by
  intro m
  induction m with
  | zero =>
    intro t _ ht
    rw [Nat.zero_mul] at ht
    refine Ev.step (f := fun k => diff_Pairs.l2 k a b ((b.length + 1 : Nat) : Int) t [] 0 0) (fun k => ?_) (next t ht)
    simp only [diff_Pairs.l0]
    rw [if_neg (by omega)]
  | succ m ih =>
    intro t hm ht
    have hx : ((m + 1 : Nat) : Int) - 1 = (m : Int) := by omega
    rw [hx]
    refine Ev.step (f := fun k => diff_Pairs.l1 k a b ((b.length + 1 : Nat) : Int) t (m : Int) ((b.length : Int) - 1)) (fun k => ?_) (prog_row hM ha hb (by omega) (fun t' h' => ih t' (by omega) h') b.length t (Nat.le_refl _) ht.down)
    simp only [diff_Pairs.l0]
    rw [if_pos (by omega), w64 (by omega) (by omega)]

theorem prog_walk {t : List Int} (ht : Tab a b t 0) : ∀ (m i j : Nat) (out : List S43), a.length + b.length < i + j + m → i ≤ a.length → j ≤ b.length → out.length ≤ i →
    Ev (fun k => diff_Pairs.l2 k a b ((b.length + 1 : Nat) : Int) t out (i : Int) (j : Int)) (out ++ (prs a b m i j).map (fun x => (⟨x.1, x.2⟩ : S43)), 0) := by
  intro m
  induction m with
  | zero => intro i j out h1 h2 h3; omega
  | succ m ih =>
    intro i j out h1 h2 h3 h4
    rw [prs]
    by_cases h : i < a.length ∧ j < b.length
    · rw [dif_pos h]
      obtain ⟨hi, hj⟩ := h
      have hia : i + 1 ≤ a.length := hi
      have hw := w64s (n := i) (by omega)
      have hv := w64s (n := j) (by omega)
      have o1 : out.length < 8796093022208 := by omega
      have k1 : a.length + b.length < i + 1 + (j + 1) + m := by omega
      have k2 : a.length + b.length < i + (j + 1) + m := by omega
      have k3 : a.length + b.length < i + 1 + j + m := by omega
      have k4 : out.length ≤ i + 1 := by omega
      have k5 : (out ++ [(⟨(i : Int), (j : Int)⟩ : S43)]).length ≤ i + 1 := by rw [List.length_append, List.length_singleton]; omega
      have e1 := ix hM hia (Nat.le_of_lt hj)
      have e2 := ix1 hM (Nat.le_of_lt hi) hj
      obtain ⟨r1, r2, r3⟩ := ht.at hia (Nat.le_of_lt hj) (.inl (Nat.zero_le _)) _ rfl
      obtain ⟨s1, s2, s3⟩ := ht.at (Nat.le_of_lt hi) hj (.inl (Nat.zero_le _)) _ rfl
      refine Ev.step (f := fun k => diff_Pairs.j4 k a b ((b.length + 1 : Nat) : Int) t out (i : Int) (j : Int) true) (fun k => ?_) ?_
      · simp only [diff_Pairs.l2]
        rw [if_pos (nl hi), decide_eq_true (nl hj)]
      by_cases hc : (a[i]'hi).toList = (b[j]'hj).toList
      · rw [if_pos hc]
        have hn := ih (i + 1) (j + 1) (out ++ [⟨(i : Int), (j : Int)⟩]) k1 hi hj k5
        rw [List.append_assoc] at hn
        refine Ev.step (f := fun k => diff_Pairs.l2 k a b ((b.length + 1 : Nat) : Int) t (out ++ [⟨(i : Int), (j : Int)⟩]) ((i + 1 : Nat) : Int) ((j + 1 : Nat) : Int)) (fun k => ?_) hn
        simp only [diff_Pairs.j4]
        rw [if_pos (by trivial), if_pos (nn i), if_pos (nl hi), if_pos (nn j), if_pos (nl hj), rdOf_at a i hi, rdOf_at b j hj, if_pos hc, if_pos o1, hw, hv]
      · rw [if_neg hc]
        by_cases hg : cm a b i (j + 1) > cm a b (i + 1) j
        · rw [if_pos hg]
          refine Ev.step (f := fun k => diff_Pairs.l2 k a b ((b.length + 1 : Nat) : Int) t out (i : Int) ((j + 1 : Nat) : Int)) (fun k => ?_) (ih i (j + 1) out k2 h2 hj h4)
          simp only [diff_Pairs.j4]
          rw [if_pos (by trivial), if_pos (nn i), if_pos (nl hi), if_pos (nn j), if_pos (nl hj), rdOf_at a i hi, rdOf_at b j hj, if_neg hc, hw, e1, if_pos r1, if_pos r2, e2, if_pos s1, if_pos s2, r3, s3, if_neg (Int.not_le.mpr hg), hv]
        · rw [if_neg hg]
          refine Ev.step (f := fun k => diff_Pairs.l2 k a b ((b.length + 1 : Nat) : Int) t out ((i + 1 : Nat) : Int) (j : Int)) (fun k => ?_) (ih (i + 1) j out k3 hi h3 k4)
          simp only [diff_Pairs.j4]
          rw [if_pos (by trivial), if_pos (nn i), if_pos (nl hi), if_pos (nn j), if_pos (nl hj), rdOf_at a i hi, rdOf_at b j hj, if_neg hc, hw, e1, if_pos r1, if_pos r2, e2, if_pos s1, if_pos s2, r3, s3, if_pos (Int.not_lt.mp hg)]
    · rw [dif_neg h, List.map_nil, List.append_nil]
      refine Ev.step (f := fun k => diff_Pairs.j4 k a b ((b.length + 1 : Nat) : Int) t out (i : Int) (j : Int) false) (fun k => ?_) ?_
      · simp only [diff_Pairs.l2]
        by_cases hi : (i : Int) < (a.length : Int)
        · rw [if_pos hi, decide_eq_false (by omega)]
        · rw [if_neg hi]
      · refine Ev.step (f := fun _ => some (out, 0)) (fun k => ?_) (Ev.now _)
        simp only [diff_Pairs.j4]
        rw [if_neg (by simp)]

theorem prog_pairs (ha' : a.length ≤ 400) (hb' : b.length ≤ 400) : Ev (fun k => diff_Pairs.f k a b) ((prs a b (a.length + b.length + 1) 0 0).map (fun x => (⟨x.1, x.2⟩ : S43)), 0) := by
  have hW : wrap64 ((b.length : Int) + 1) = ((b.length + 1 : Nat) : Int) := (w64 (by omega) (by omega)).trans (by omega)
  have hA : wrap64 ((a.length : Int) + 1) = ((a.length + 1 : Nat) : Int) := (w64 (by omega) (by omega)).trans (by omega)
  have hP : wrap64 (((a.length + 1 : Nat) : Int) * ((b.length + 1 : Nat) : Int)) = (((a.length + 1) * (b.length + 1) : Nat) : Int) := by
    rw [← Int.natCast_mul]
    exact w64 (by omega) (by omega)
  refine Ev.congr (f := fun k => diff_Pairs.j0 k a b false) (fun k => ?_) ?_
  · unfold diff_Pairs.f
    rw [if_neg (by omega), decide_eq_false (by omega)]
  refine Ev.step (f := fun k => diff_Pairs.l0 k a b ((b.length + 1 : Nat) : Int) (List.replicate ((a.length + 1) * (b.length + 1)) 0) ((a.length : Int) - 1)) (fun k => ?_) (prog_rows hM ha hb (fun t' h' => ?_) a.length _ (Nat.le_refl _) (Tab.start a b))
  · simp only [diff_Pairs.j0]
    rw [if_neg (by simp), hW, hA, hP, if_pos (by omega), Int.toNat_natCast, if_pos (by omega), w64 (by omega) (by omega)]
  · exact prog_walk hM ha hb h' (a.length + b.length + 1) 0 0 [] (by omega) (by omega) (by omega) (by simp)

end
end Go.Proofs.YthdmioocgofaeaaDoor.Pl
