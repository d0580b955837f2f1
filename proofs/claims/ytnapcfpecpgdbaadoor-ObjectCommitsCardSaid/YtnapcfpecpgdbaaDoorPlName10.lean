/- A name has no line's end in it. -/
import Derived.Test.YtnapcfpecpgdbaaDoorMx7
import Derived.Test.YtnapcfpecpgdbaaDoorPlName
namespace Go.Proofs.YtnapcfpecpgdbaaDoor.Pl
set_option linter.unusedVariables false
open Go.RowKit Go.Proofs.YtnapcfpecpgdbaaDoor.M Go.Proofs.YtnapcfpecpgdbaaDoorW.PrintWords Go.Proofs.YtnapcfpecpgdbaaDoorW.PrintLast

/-- The bytes of a rune of 32 or more are no line's end. -/
theorem dec_no10 (n b0 b1 b2 b3 : Nat) (h : 32 ≤ (decB n b0 b1 b2 b3).1) (hr : (decB n b0 b1 b2 b3).1 ≠ 65533) : b0 ≠ 10 ∧ (2 ≤ (decB n b0 b1 b2 b3).2 → b1 ≠ 10) ∧ (3 ≤ (decB n b0 b1 b2 b3).2 → b2 ≠ 10) ∧ (4 ≤ (decB n b0 b1 b2 b3).2 → b3 ≠ 10) := by
  unfold decB at *
  by_cases c0 : b0 < 128
  · rw [if_pos c0] at h ⊢
    simp only at h ⊢
    omega
  rw [if_neg c0] at h hr ⊢
  by_cases c1 : (b0 / 32 == 6 && (decide (1 < n) && b1 / 64 == 2)) = true
  · rw [if_pos c1] at h hr ⊢
    simp only [Bool.and_eq_true, beq_iff_eq, decide_eq_true_eq] at c1
    split at h
    next c2 =>
      rw [if_pos c2]
      simp only
      omega
    next c2 =>
      rw [if_neg c2] at hr
      exact absurd rfl hr
  rw [if_neg c1] at h hr ⊢
  by_cases c2 : (b0 / 16 == 14 && (decide (1 < n) && b1 / 64 == 2) && (decide (2 < n) && b2 / 64 == 2)) = true
  · rw [if_pos c2] at h hr ⊢
    simp only [Bool.and_eq_true, beq_iff_eq, decide_eq_true_eq] at c2
    split at h
    next c3 =>
      rw [if_pos c3]
      simp only
      omega
    next c3 =>
      rw [if_neg c3] at hr
      exact absurd rfl hr
  rw [if_neg c2] at h hr ⊢
  by_cases c3 : (b0 / 8 == 30 && (decide (1 < n) && b1 / 64 == 2) && (decide (2 < n) && b2 / 64 == 2) && (decide (3 < n) && b3 / 64 == 2)) = true
  · rw [if_pos c3] at h hr ⊢
    simp only [Bool.and_eq_true, beq_iff_eq, decide_eq_true_eq] at c3
    split at h
    next c4 =>
      rw [if_pos c4]
      simp only
      omega
    next c4 =>
      rw [if_neg c4] at hr
      exact absurd rfl hr
  · rw [if_neg c3] at hr
    exact absurd rfl hr

theorem name_no10_go (s : ByteArray) : ∀ (fuel pos : Nat), s.size ≤ pos + fuel → label_Name.go s fuel pos = true → ∀ j, pos ≤ j → j < s.size → s.get! j ≠ 10 := by
  intro fuel
  induction fuel with
  | zero =>
    intro pos h1 _ j h2 h3
    omega
  | succ fuel ih =>
    intro pos h1 hg j h2 h3
    simp only [label_Name.go] at hg
    rw [if_pos (by omega), plain_iff] at hg
    split at hg
    · cases hg
    next hp =>
      have hp2 : 32 ≤ (Utf8.decode s pos).1 ∧ (Utf8.decode s pos).1 ≠ 65533 := by
        by_cases c : (32 : Int) ≤ ((Utf8.decode s pos).1 : Int) ∧ ((Utf8.decode s pos).1 : Int) ≠ 47 ∧ ((Utf8.decode s pos).1 : Int) ≠ 65533 ∧ (((Utf8.decode s pos).1 : Int) < 127 ∨ 159 < ((Utf8.decode s pos).1 : Int))
        · omega
        · exact absurd (by rw [decide_eq_false c]) hp
      have h4 := decode_le4 s pos
      by_cases hj : j < pos + (Utf8.decode s pos).2
      · rw [decode_decB] at hp2 h4 hj
        obtain ⟨k0, k1, k2, k3⟩ := dec_no10 _ _ _ _ _ hp2.1 hp2.2
        have nz : ∀ u : UInt8, u.toNat ≠ 10 → u ≠ 10 := fun u h e => h (by rw [e]; rfl)
        have hc : j = pos + 0 ∨ j = pos + 1 ∨ j = pos + 2 ∨ j = pos + 3 := by omega
        rcases hc with e | e | e | e
        · rw [e]
          exact nz _ k0
        · rw [e]
          exact nz _ (k1 (by omega))
        · rw [e]
          exact nz _ (k2 (by omega))
        · rw [e]
          exact nz _ (k3 (by omega))
      · have hd := decode_pos s pos
        exact ih _ (by omega) hg j (by omega) h3

theorem name_no10 (s : ByteArray) (h : label_Name.f s = some true) : (10 : UInt8) ∉ s.toList := by
  have hg : label_Name.go s s.size 0 = true := by
    unfold label_Name.f at h
    repeat' split at h
    all_goals first | cases h | exact Option.some.inj h
  intro hm
  rw [toList_eq] at hm
  obtain ⟨j, hj, he⟩ := List.mem_iff_getElem.mp hm
  have hj2 : j < s.size := by simpa using hj
  refine name_no10_go s s.size 0 (by omega) hg j (by omega) hj2 ?_
  have := get_data s j hj2
  rw [List.getElem?_eq_getElem hj, he] at this
  exact (Option.some.inj this).symm
end Go.Proofs.YtnapcfpecpgdbaaDoor.Pl
