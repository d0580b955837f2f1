/- A text cut at a byte, and put together again, in plain Lean. -/
import Derived.Test.YtcgdpaaemiecgaaDoorPlBytes
import Derived.Lib.SplitLaws
import Derived.Lib.IndexBytes
import Derived.Lib.Join
namespace Go.Proofs.YtcgdpaaemiecgaaDoor.Pl
set_option linter.unusedVariables false
set_option linter.unusedSimpArgs false
open Go.RowKit Go.Proofs.YtcgdpaaemiecgaaDoorW.PrintWords Go.Proofs.YtcgdpaaemiecgaaDoorW.PrintLast

def mk (l : List UInt8) : ByteArray := ⟨l.toArray⟩
theorem toList_mk (l : List UInt8) : (mk l).toList = l := toList_lit l
theorem mk_toList (s : ByteArray) : mk s.toList = s := ba_ext (toList_mk _)
theorem mk_size (l : List UInt8) : (mk l).size = l.length := by rw [← toList_length, toList_mk]

def sp0 (c : UInt8) : List UInt8 → List UInt8 → List (List UInt8)
  | acc, [] => [acc]
  | acc, b :: l => if b = c then acc :: sp0 c [] l else sp0 c (acc ++ [b]) l
theorem sp0_absent (c : UInt8) : ∀ l acc : List UInt8, c ∉ l → sp0 c acc l = [acc ++ l]
  | [], acc, _ => by simp [sp0]
  | b :: l, acc, h => by
    have hb : ¬ b = c := fun e => h (by simp [e])
    rw [sp0, if_neg hb, sp0_absent c l _ (fun hm => h (by simp [hm]))]
    simp
theorem sp0_first (c : UInt8) (r : List UInt8) : ∀ l acc : List UInt8, c ∉ l → sp0 c acc (l ++ c :: r) = (acc ++ l) :: sp0 c [] r
  | [], acc, _ => by simp [sp0]
  | b :: l, acc, h => by
    have hb : ¬ b = c := fun e => h (by simp [e])
    rw [List.cons_append, sp0, if_neg hb, sp0_first c r l _ (fun hm => h (by simp [hm]))]
    simp
theorem sp0_length (c : UInt8) : ∀ l acc : List UInt8, (sp0 c acc l).length = l.count c + 1
  | [], acc => by simp [sp0]
  | b :: l, acc => by
    rw [sp0]
    by_cases h : b = c
    · rw [if_pos h, List.length_cons, sp0_length c l, h, List.count_cons_self]
    · rw [if_neg h, sp0_length c l, List.count_cons_of_ne (by simpa using h)]
theorem sp0_tail (c : UInt8) : ∀ l acc : List UInt8, Lib.joinTail [c] (sp0 c acc l) = c :: (acc ++ l)
  | [], acc => by simp [sp0, Lib.joinTail]
  | b :: l, acc => by
    rw [sp0]
    by_cases h : b = c
    · rw [if_pos h, h]
      have ih := sp0_tail c l []
      unfold Lib.joinTail at ih ⊢
      rw [List.map_cons, List.flatten_cons, ih]
      simp
    · rw [if_neg h, sp0_tail c l]
      simp
theorem sp0_join (c : UInt8) : ∀ l acc : List UInt8, Lib.join (sp0 c acc l) [c] = acc ++ l
  | [], acc => by rw [sp0, Lib.join_one]; simp
  | b :: l, acc => by
    rw [sp0]
    by_cases h : b = c
    · rw [if_pos h, Lib.join_cons, sp0_tail, h]
      simp
    · rw [if_neg h, sp0_join c l]
      simp
theorem splitK_sp0 (c : UInt8) : ∀ (n : Nat) (s : List UInt8), s.length ≤ n → Lib.splitK [c] 0 (s.count c) s = sp0 c [] s := by
  intro n
  induction n with
  | zero =>
    intro s h
    obtain rfl : s = [] := List.eq_nil_of_length_eq_zero (by omega)
    rfl
  | succ n ih =>
    intro s h
    by_cases hc : c ∈ s
    · have hne : ¬ Lib.indexByte s c = -1 := fun e => ((index_absent s c).mpr e) hc
      have hge := Lib.index_ge s [c]
      rw [Lib.index_one] at hge
      obtain ⟨i, hi⟩ : ∃ i : Nat, Lib.indexByte s c = i := ⟨(Lib.indexByte s c).toNat, by omega⟩
      obtain ⟨h1, h2, h3⟩ := index_split hi
      have hcount : s.count c = (s.drop (i + 1)).count c + 1 := by
        conv => lhs; rw [h1]
        rw [List.count_append, List.count_eq_zero.mpr h2, List.count_cons_self]
        omega
      rw [hcount, Lib.splitK, Lib.index_one, if_neg (by simpa using hne), hi]
      conv => rhs; rw [h1]
      rw [sp0_first c _ _ _ h2]
      have := ih (s.drop (i + 1)) (by rw [List.length_drop]; omega)
      simp only [Int.toNat_natCast, List.length_cons, List.length_nil, Nat.add_zero, List.nil_append] at this ⊢
      rw [this]
    · rw [List.count_eq_zero.mpr hc, sp0_absent c s [] hc]
      rfl
theorem splitB_sp0 (c : UInt8) (s : ByteArray) : Lib.splitB ⟨#[c]⟩ 0 (Lib.countB s ⟨#[c]⟩) s = (sp0 c [] s.toList).map mk := by
  have h := Lib.splitB_data ⟨#[c]⟩ 0 (Lib.countB s ⟨#[c]⟩) s
  have hc : Lib.countB s ⟨#[c]⟩ = s.toList.count c := by
    show Lib.count s.data.toList [c] = _
    rw [Lib.count_one, toList_eq]
  rw [hc, ← toList_eq s] at h
  have h2 : Lib.splitK [c] 0 (s.toList.count c) s.toList = sp0 c [] s.toList := splitK_sp0 c _ _ (Nat.le_refl _)
  have h3 : (Lib.splitB ⟨#[c]⟩ 0 (s.toList.count c) s).map (·.data.toList) = sp0 c [] s.toList := h.trans h2
  rw [hc, ← h3, List.map_map]
  conv => lhs; rw [← List.map_id (Lib.splitB ⟨#[c]⟩ 0 (s.toList.count c) s)]
  apply List.map_congr_left
  intro a _
  show a = mk a.data.toList
  rw [← toList_eq, mk_toList]
theorem extract_one (s : ByteArray) (a i : Nat) (h : a ≤ i) (hi : i < s.size) : (s.extract a (i + 1)).toList = (s.extract a i).toList ++ [s.toList[i]'(by rw [toList_length]; exact hi)] := by
  have hl := toList_length s
  rw [toList_extract, toList_extract, show i + 1 - a = (i - a) + 1 by omega, List.take_add_one, List.getElem?_drop, show a + (i - a) = i by omega, List.getElem?_eq_getElem (by omega)]
  rfl
end Go.Proofs.YtcgdpaaemiecgaaDoor.Pl
