/- Small plain lemmas on bytes and sums, for the session's own proofs. -/
import Derived.Test.YtgepbdkbleapaaaWords
import Derived.Laws.RangeAny
import Derived.Lib.RabinKarpLaws
namespace Go.Proofs.Ytgepbdkbleapaaa.Pl
open Go.RowKit Go.Proofs.YtgepbdkbleapaaaW.PrintWords Go.Proofs.YtgepbdkbleapaaaW.PrintLast

theorem w64 {x : Int} (h : -9223372036854775808 ≤ x) (h2 : x < 9223372036854775808) : wrap64 x = x := by
  unfold wrap64; omega

theorem get_bt (s : ByteArray) (i : Nat) (h : i < s.size) : ((s.get! i).toNat : Int) = bt s i := by
  unfold bt
  rw [dif_pos (by simpa using h)]
  have : s.get! i = s[i]'h := by
    simp [ByteArray.get!, getElem!_pos, h]
    rfl
  rw [this]
  simp

theorem extract_size (s : ByteArray) (a : Nat) : (s.extract a s.size).size = s.size - a := by
  simp [ByteArray.size_extract]

theorem bt_nat (s : ByteArray) (i : Nat) (h : i < s.size) : bt s (i : Int) = ((s[i]'h).toNat : Int) := by
  unfold bt
  rw [dif_pos (by simpa using h)]
  simp

theorem bt_extract (s : ByteArray) (a i : Nat) (h : a + i < s.size) : bt (s.extract a s.size) (i : Int) = bt s ((a + i : Nat) : Int) := by
  rw [bt_nat _ i (by rw [extract_size]; omega), bt_nat _ (a + i) h]
  simp [ByteArray.getElem_extract]

theorem extract_data (s : ByteArray) (a b : Nat) : (s.extract a b).data = s.data.extract a b := by
  simp

theorem extract_extract (s : ByteArray) (a b : Nat) : (s.extract a s.size).extract b (s.extract a s.size).size = s.extract (a + b) s.size := by
  rw [extract_size]
  apply ByteArray.ext
  rw [extract_data, extract_data, extract_data, Array.extract_extract]
  congr 1
  omega

theorem get_bt' (s : ByteArray) (i : Nat) : ((s.get! i).toNat : Int) = bt s i := by
  by_cases h : i < s.size
  · exact get_bt s i h
  · unfold bt
    rw [dif_neg (by simpa using h)]
    have : s.get! i = 0 := by
      have h' : ¬ i < s.data.size := h
      simp only [ByteArray.get!]
      exact getElem!_neg s.data i h'
    rw [this]
    rfl

theorem bt_extract' (s : ByteArray) (a i : Nat) : bt (s.extract a s.size) (i : Int) = bt s ((a + i : Nat) : Int) := by
  by_cases h : a + i < s.size
  · exact bt_extract s a i h
  · unfold bt
    rw [dif_neg (by rw [extract_size]; simp; omega), dif_neg (by simp; omega)]

theorem get_extract (s : ByteArray) (a i : Nat) : (s.extract a s.size).get! i = s.get! (a + i) := by
  have h1 := get_bt' (s.extract a s.size) i
  have h2 := get_bt' s (a + i)
  rw [bt_extract', ← h2] at h1
  exact UInt8.toNat_inj.mp (by omega)

theorem toList_eq (s : ByteArray) : s.toList = s.data.toList := by
  obtain ⟨⟨l⟩⟩ := s
  exact ByteArray.toList_mk l

theorem get_data (s : ByteArray) (i : Nat) (h : i < s.size) : s.data.toList[i]? = some (s.get! i) := by
  have h' : i < s.data.size := h
  simp only [ByteArray.get!]
  rw [getElem!_pos s.data i h']
  simp

theorem extract_all (s : ByteArray) : s.extract 0 s.size = s := by
  apply ByteArray.ext
  rw [extract_data]
  exact Array.extract_size

theorem take_list (s : ByteArray) (n : Nat) : (s.extract 0 n).toList = s.data.toList.take n := by
  rw [toList_eq, extract_data]
  simp [List.extract]

theorem len_of_take (s : ByteArray) (n : Nat) (l : List UInt8) (h : s.data.toList.take n = l) : l.length ≤ s.size := by
  rw [← h, List.length_take]
  exact Nat.min_le_right _ _
end Go.Proofs.Ytgepbdkbleapaaa.Pl
