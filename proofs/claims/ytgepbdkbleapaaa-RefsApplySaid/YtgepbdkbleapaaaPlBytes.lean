/- Bytes as lists, and the order of texts: for the session's own proofs. -/
import Derived.Test.YtgepbdkbleapaaaPlBase
import Derived.Lib.IndexLaws
namespace Go.Proofs.Ytgepbdkbleapaaa.Pl
set_option linter.unusedVariables false
set_option linter.unusedSimpArgs false
open Go.RowKit Go.Proofs.YtgepbdkbleapaaaW.PrintWords Go.Proofs.YtgepbdkbleapaaaW.PrintLast

theorem ba_ext {a b : ByteArray} (h : a.toList = b.toList) : a = b := by
  rw [toList_eq, toList_eq] at h
  apply ByteArray.ext
  exact Array.toList_inj.mp h

theorem toList_append (a b : ByteArray) : (a ++ b).toList = a.toList ++ b.toList := by
  rw [toList_eq, toList_eq, toList_eq]
  simp

theorem toList_extract (s : ByteArray) (a b : Nat) : (s.extract a b).toList = (s.toList.drop a).take (b - a) := by
  rw [toList_eq, toList_eq, extract_data]
  simp [List.extract]

theorem toList_length (s : ByteArray) : s.toList.length = s.size := by
  rw [toList_eq]
  simp

theorem toList_from (s : ByteArray) (a : Nat) : (s.extract a s.size).toList = s.toList.drop a := by
  rw [toList_extract, List.take_of_length_le]
  rw [List.length_drop, toList_length]
  omega

theorem toList_nil : (⟨#[]⟩ : ByteArray).toList = [] := by rw [toList_eq]

theorem toList_lit (l : List UInt8) : (⟨l.toArray⟩ : ByteArray).toList = l := by
  rw [toList_eq]

theorem size_zero {s : ByteArray} : s.toList = [] ↔ s.size = 0 := by
  rw [← toList_length]
  exact List.length_eq_zero_iff.symm

/-- Of two texts one is less than the other one, or they are the same. -/
theorem less_turn : ∀ a b : List UInt8, (Op.bytesLess a b || a == b) = !Op.bytesLess b a
  | [], [] => by simp [Op.bytesLess]
  | [], b :: y => by simp [Op.bytesLess]
  | a :: x, [] => by simp [Op.bytesLess]
  | a :: x, b :: y => by
    have ih := less_turn x y
    simp only [Op.bytesLess]
    by_cases h1 : a < b
    · have h2 : ¬ b < a := by
        rw [UInt8.lt_iff_toNat_lt] at *
        omega
      have h3 : ¬ b = a := by
        rintro rfl
        exact h2 h1
      simp [h1, h2, h3]
    · by_cases h2 : a = b
      · subst h2
        simp only [h1, decide_false, Bool.false_or, beq_self_eq_true, Bool.true_and]
        rw [← ih]
        congr 1
        rw [Bool.eq_iff_iff]
        simp
      · have h3 : b < a := by
          rw [UInt8.lt_iff_toNat_lt] at *
          have : a.toNat ≠ b.toNat := fun e => h2 (UInt8.toNat_inj.mp e)
          omega
        have h4 : ¬ b = a := fun e => h2 e.symm
        simp [h1, h2, h3]

theorem less_irrefl (a : List UInt8) : Op.bytesLess a a = false := by
  have := less_turn a a
  rw [beq_self_eq_true, Bool.or_true] at this
  simpa using this.symm

/-- Where a byte first stands. -/
theorem index_first (l r : List UInt8) (c : UInt8) (h : c ∉ l) : Lib.indexByte (l ++ c :: r) c = l.length := by
  induction l with
  | nil => simp [Lib.indexByte]
  | cons b l ih =>
    have hb : ¬ b = c := fun e => h (by simp [e])
    have ih' := ih (fun hm => h (by simp [hm]))
    simp only [List.cons_append, Lib.indexByte]
    rw [ih', if_neg (by simpa using hb), if_neg (by rw [beq_iff_eq]; omega)]
    rw [List.length_cons]
    omega

theorem index_split {l : List UInt8} {c : UInt8} {n : Nat} (h : Lib.indexByte l c = (n : Int)) : l = l.take n ++ c :: l.drop (n + 1) ∧ c ∉ l.take n ∧ n < l.length := by
  obtain ⟨h1, h2⟩ := Lib.indexByte_some h
  obtain ⟨hn, he⟩ := List.getElem?_eq_some_iff.mp h1
  refine ⟨?_, ?_, hn⟩
  · rw [← he, List.getElem_cons_drop hn, List.take_append_drop]
  · intro hm
    obtain ⟨i, hi, hc⟩ := List.mem_iff_getElem.mp hm
    rw [List.length_take] at hi
    rw [List.getElem_take] at hc
    exact h2 i (by omega) (by rw [List.getElem?_eq_getElem (by omega), hc])

theorem index_absent (l : List UInt8) (c : UInt8) : c ∉ l ↔ Lib.indexByte l c = -1 := by
  constructor
  · intro h
    induction l with
    | nil => rfl
    | cons b l ih =>
      have hb : ¬ b = c := fun e => h (by simp [e])
      have ih' := ih (fun hm => h (by simp [hm]))
      simp only [Lib.indexByte]
      rw [ih', if_neg (by simpa using hb)]
      rfl
  · intro h hm
    obtain ⟨i, hi, hc⟩ := List.mem_iff_getElem.mp hm
    exact Lib.indexByte_none h i (by rw [List.getElem?_eq_getElem hi, hc])

theorem index_cons (b : UInt8) (l : List UInt8) (c : UInt8) : Lib.indexByte (b :: l) c = if b = c then 0 else if Lib.indexByte l c = -1 then -1 else Lib.indexByte l c + 1 := by
  simp only [Lib.indexByte]
  by_cases h : b = c
  · rw [if_pos h, if_pos (by simpa using h)]
  · rw [if_neg h, if_neg (by simpa using h)]
    by_cases h1 : Lib.indexByte l c = -1
    · rw [if_pos h1, if_pos (by simpa using h1)]
    · rw [if_neg h1, if_neg (by simpa using h1)]

theorem bt_toList (s : ByteArray) (i : Nat) (h : i < s.size) : bt s (i : Int) = ((s.toList[i]'(by rw [toList_length]; exact h)).toNat : Int) := by
  rw [bt_nat s i h]
  simp only [toList_eq]
  rfl
end Go.Proofs.Ytgepbdkbleapaaa.Pl
