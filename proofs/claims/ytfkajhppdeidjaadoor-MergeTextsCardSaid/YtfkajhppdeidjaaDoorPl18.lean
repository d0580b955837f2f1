/- A text's lines, in plain Lean: SplitAfter's pieces, and the document's walk. -/
import Derived.Test.YtfkajhppdeidjaaDoorPlBytes
import Derived.Lib.SplitLaws
import Derived.Lib.IndexBytes
import Derived.Test.YtfkajhppdeidjaaDoorMx12
namespace Go.Proofs.YtfkajhppdeidjaaDoor.Pl
set_option linter.unusedVariables false
set_option linter.unusedSimpArgs false
open Go.RowKit Go.Proofs.YtfkajhppdeidjaaDoor.M Go.Proofs.YtfkajhppdeidjaaDoorW.PrintWords Go.Proofs.YtfkajhppdeidjaaDoorW.PrintLast

def sp (c : UInt8) : List UInt8 → List UInt8 → List (List UInt8)
  | acc, [] => [acc]
  | acc, b :: l => if b = c then (acc ++ [b]) :: sp c [] l else sp c (acc ++ [b]) l
def lns (c : UInt8) : List UInt8 → List UInt8 → List (List UInt8)
  | acc, [] => if acc = [] then [] else [acc]
  | acc, b :: l => if b = c then (acc ++ [b]) :: lns c [] l else lns c (acc ++ [b]) l

theorem sp_absent (c : UInt8) : ∀ l acc : List UInt8, c ∉ l → sp c acc l = [acc ++ l]
  | [], acc, _ => by simp [sp]
  | b :: l, acc, h => by
    have hb : ¬ b = c := fun e => h (by simp [e])
    rw [sp, if_neg hb, sp_absent c l _ (fun hm => h (by simp [hm]))]
    simp
theorem sp_first (c : UInt8) (r : List UInt8) : ∀ l acc : List UInt8, c ∉ l → sp c acc (l ++ c :: r) = (acc ++ l ++ [c]) :: sp c [] r
  | [], acc, _ => by simp [sp]
  | b :: l, acc, h => by
    have hb : ¬ b = c := fun e => h (by simp [e])
    rw [List.cons_append, sp, if_neg hb, sp_first c r l _ (fun hm => h (by simp [hm]))]
    simp
theorem sp_flat (c : UInt8) : ∀ l acc : List UInt8, (sp c acc l).flatten = acc ++ l
  | [], acc => by simp [sp]
  | b :: l, acc => by
    rw [sp]
    by_cases h : b = c
    · rw [if_pos h, List.flatten_cons, sp_flat c l]
      simp
    · rw [if_neg h, sp_flat c l]
      simp
theorem sp_lns (c : UInt8) : ∀ l acc : List UInt8, ∃ X y, sp c acc l = X ++ [y] ∧ lns c acc l = if y = [] then X else X ++ [y]
  | [], acc => ⟨[], acc, rfl, rfl⟩
  | b :: l, acc => by
    by_cases h : b = c
    · obtain ⟨X, y, h1, h2⟩ := sp_lns c l []
      refine ⟨(acc ++ [b]) :: X, y, ?_, ?_⟩
      · rw [sp, if_pos h, h1]; rfl
      · rw [lns, if_pos h, h2]
        by_cases hy : y = []
        · rw [if_pos hy, if_pos hy]
        · rw [if_neg hy, if_neg hy]; rfl
    · obtain ⟨X, y, h1, h2⟩ := sp_lns c l (acc ++ [b])
      exact ⟨X, y, by rw [sp, if_neg h, h1], by rw [lns, if_neg h, h2]⟩
theorem lns_flat (c : UInt8) (l acc : List UInt8) : (lns c acc l).flatten = acc ++ l := by
  obtain ⟨X, y, h1, h2⟩ := sp_lns c l acc
  rw [← sp_flat c l acc, h1, h2]
  by_cases hy : y = []
  · rw [if_pos hy, hy]; simp
  · rw [if_neg hy]
theorem sp_length (c : UInt8) : ∀ l acc : List UInt8, (sp c acc l).length ≤ l.length + 1
  | [], acc => by simp [sp]
  | b :: l, acc => by
    rw [sp]
    have h1 := sp_length c l []
    have h2 := sp_length c l (acc ++ [b])
    by_cases h : b = c
    · rw [if_pos h, List.length_cons, List.length_cons]; omega
    · rw [if_neg h, List.length_cons]; omega
theorem lns_length (c : UInt8) (l acc : List UInt8) : (lns c acc l).length ≤ l.length + 1 := by
  obtain ⟨X, y, h1, h2⟩ := sp_lns c l acc
  have := sp_length c l acc
  rw [h1] at this
  rw [h2]
  split
  · rw [List.length_append] at this; omega
  · exact this

theorem splitK_sp (c : UInt8) : ∀ (n : Nat) (s : List UInt8), s.length ≤ n → Lib.splitK [c] 1 (s.count c) s = sp c [] s := by
  intro n
  induction n with
  | zero =>
    intro s h
    obtain rfl : s = [] := List.eq_nil_of_length_eq_zero (by omega)
    rfl
  | succ n ih =>
    intro s h
    by_cases hc : c ∈ s
    · have hne : ¬ Lib.indexByte s c = -1 := fun e => ((index_absent s c).mpr e) hc
      have hge := Lib.index_ge s [c]
      rw [Lib.index_one] at hge
      obtain ⟨i, hi⟩ : ∃ i : Nat, Lib.indexByte s c = i := ⟨(Lib.indexByte s c).toNat, by omega⟩
      obtain ⟨h1, h2, h3⟩ := index_split hi
      have hcount : s.count c = (s.drop (i + 1)).count c + 1 := by
        conv => lhs; rw [h1]
        rw [List.count_append, List.count_eq_zero.mpr h2, List.count_cons_self]
        omega
      rw [hcount, Lib.splitK, Lib.index_one, if_neg (by simpa using hne), hi]
      conv => rhs; rw [h1]
      rw [sp_first c _ _ _ h2]
      have ht : s.take (((i : Nat) : Int).toNat + 1) = [] ++ s.take i ++ [c] := by
        rw [Int.toNat_natCast]
        conv => lhs; rw [h1]
        have hl : (s.take i).length = i := by rw [List.length_take]; omega
        have e : i + 1 = (s.take i).length + 1 := by omega
        rw [List.nil_append, e, List.take_length_add_append]
        simp
      rw [ht]
      have := ih (s.drop (i + 1)) (by rw [List.length_drop]; omega)
      simp only [Int.toNat_natCast, List.length_cons, List.length_nil] at this ⊢
      rw [this]
    · rw [List.count_eq_zero.mpr hc, sp_absent c s [] hc]
      rfl

def mk (l : List UInt8) : ByteArray := ⟨l.toArray⟩
theorem toList_mk (l : List UInt8) : (mk l).toList = l := toList_lit l
theorem mk_toList (s : ByteArray) : mk s.toList = s := ba_ext (toList_mk _)
theorem mk_size (l : List UInt8) : (mk l).size = l.length := by rw [← toList_length, toList_mk]

theorem splitB_lns (c : UInt8) (s : ByteArray) : Lib.splitB ⟨#[c]⟩ 1 (Lib.countB s ⟨#[c]⟩) s = (sp c [] s.toList).map mk := by
  have h := Lib.splitB_data ⟨#[c]⟩ 1 (Lib.countB s ⟨#[c]⟩) s
  have hc : Lib.countB s ⟨#[c]⟩ = s.toList.count c := by
    show Lib.count s.data.toList [c] = _
    rw [Lib.count_one, toList_eq]
  rw [hc, ← toList_eq s] at h
  have h2 : Lib.splitK [c] 1 (s.toList.count c) s.toList = sp c [] s.toList := splitK_sp c _ _ (Nat.le_refl _)
  have h3 : (Lib.splitB ⟨#[c]⟩ 1 (s.toList.count c) s).map (·.data.toList) = sp c [] s.toList := h.trans h2
  rw [hc, ← h3, List.map_map]
  conv => lhs; rw [← List.map_id (Lib.splitB ⟨#[c]⟩ 1 (s.toList.count c) s)]
  apply List.map_congr_left
  intro a _
  show a = mk a.data.toList
  rw [← toList_eq, mk_toList]

theorem extract_one (s : ByteArray) (a i : Nat) (h : a ≤ i) (hi : i < s.size) : (s.extract a (i + 1)).toList = (s.extract a i).toList ++ [s.toList[i]'(by rw [toList_length]; exact hi)] := by
  have hl := toList_length s
  rw [toList_extract, toList_extract, show i + 1 - a = (i - a) + 1 by omega, List.take_add_one, List.getElem?_drop, show a + (i - a) = i by omega, List.getElem?_eq_getElem (by omega)]
  rfl

theorem prog_lines (s : ByteArray) (hs : s.size ≤ 1000000) : diff_Lines.f s = some ((lns 10 [] s.toList).map mk) := by
  have h1 : strings_SplitAfter.f s (⟨#[10]⟩ : ByteArray) = some ((sp 10 [] s.toList).map mk) := by
    unfold strings_SplitAfter.f
    rw [if_pos ⟨rfl, by omega⟩, splitB_lns]
  obtain ⟨X, y, h2, h3⟩ := sp_lns 10 s.toList []
  have hlen := sp_length 10 s.toList []
  rw [toList_length] at hlen
  rw [h2] at h1 hlen
  rw [List.length_append, List.length_singleton] at hlen
  unfold diff_Lines.f
  rw [h1, Option.bind_some, h3]
  have hl : ((X ++ [y]).map mk).length = X.length + 1 := by simp
  have hw : wrap64 ((((X ++ [y]).map mk).length : Int) - 1) = (X.length : Int) := (w64 (by omega) (by omega)).trans (by omega)
  have hr : rdOf ByteArray.empty ((X ++ [y]).map mk) (X.length : Int) = mk y := by
    unfold rdOf
    rw [Int.toNat_natCast]
    simp [List.getD]
  rw [hw, if_pos (by omega), if_pos (by omega), hr, toList_mk]
  by_cases hy : y = []
  · rw [if_pos hy, if_pos hy, if_pos (by omega), Int.toNat_natCast]
    simp
  · rw [if_neg hy, if_neg hy]
end Go.Proofs.YtfkajhppdeidjaaDoor.Pl
