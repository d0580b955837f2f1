/- A tree's bytes, read entry by entry. -/
import Derived.Test.YtopdlgdacbonpaaPl06
import Derived.Test.YtopdlgdacbonpaaMx3
import Derived.Test.YtopdlgdacbonpaaMx4
import Derived.Test.YtopdlgdacbonpaaMx7
import Derived.Test.YtopdlgdacbonpaaMx8
import Derived.Test.YtopdlgdacbonpaaMx5
namespace Go.Proofs.Ytopdlgdacbonpaa.Pl
set_option linter.unusedVariables false
set_option linter.unusedSimpArgs false
open Go.RowKit Go.Proofs.Ytopdlgdacbonpaa.M Go.Proofs.YtopdlgdacbonpaaW.PrintWords Go.Proofs.YtopdlgdacbonpaaW.PrintLast

theorem cut1 (s : ByteArray) (c : UInt8) (hs : s.size ≤ 140737488351232) : strings_Cut.f s ⟨#[c]⟩ = if 0 ≤ Lib.indexByte s.toList c then some (s.extract 0 (Lib.indexByte s.toList c).toNat, s.extract ((Lib.indexByte s.toList c).toNat + 1) s.size, true) else some (s, (⟨#[]⟩ : ByteArray), false) := by
  unfold strings_Cut.f
  rw [if_pos ⟨rfl, hs⟩, toList_eq]
  rfl

/-- The word of a mode. -/
def word (m : Int) : List UInt8 := if m = 1 then [102, 105, 108, 101] else if m = 2 then [114, 117, 110] else if m = 3 then [116, 114, 101, 101] else []

theorem refmode (m : Int) (h : 1 ≤ m ∧ m ≤ 3) : pollardref06_mode.f m = some ⟨(word m).toArray⟩ := by
  have : m = 1 ∨ m = 2 ∨ m = 3 := by omega
  rcases this with rfl | rfl | rfl <;> rfl

/-- Which of the modes' words a text is. -/
def idx (w : List UInt8) : Int := if w = [] then 0 else if w = word 1 then 1 else if w = word 2 then 2 else if w = word 3 then 3 else -1

theorem index_modes (w : ByteArray) : Ev (fun k => (tree_modes.f).bind fun t => slices_Index_string_string.f k t w) (idx w.toList) := by
  refine ⟨5, fun k hk => ?_⟩
  obtain ⟨k, rfl⟩ : ∃ j, k = j + 5 := ⟨k - 5, by omega⟩
  have r0 : ∀ l : List UInt8, (⟨⟨l⟩⟩ : ByteArray).toList = l := fun l => by rw [toList_eq]
  have w0 : wrap64 (0 + 1) = 1 := by unfold wrap64; omega
  have w1 : wrap64 (1 + 1) = 2 := by unfold wrap64; omega
  have w2 : wrap64 (2 + 1) = 3 := by unfold wrap64; omega
  have w3 : wrap64 (3 + 1) = 4 := by unfold wrap64; omega
  unfold tree_modes.f slices_Index_string_string.f
  simp only [Option.bind_some, slices_Index_string_string.l0, List.length_cons, List.length_nil, w0, w1, w2, w3, rdOf, Int.toNat_zero, show (1 : Int).toNat = 1 from rfl, show (2 : Int).toNat = 2 from rfl, show (3 : Int).toNat = 3 from rfl, List.getD_cons_zero, List.getD_cons_succ, r0]
  unfold idx word
  generalize w.toList = l
  simp
  repeat' split
  all_goals rfl

/-- The mode's word ahead of a name, and the name. -/
def modeOf (h : ByteArray) : Option (Int × ByteArray) :=
  if h.toList.take 5 = word 1 ++ [32] then some (1, h.extract 5 h.size) else if h.toList.take 4 = word 2 ++ [32] then some (2, h.extract 4 h.size) else if h.toList.take 5 = word 3 ++ [32] then some (3, h.extract 5 h.size) else none

/-- An entry at the front of bytes; what is behind it; or the error. -/
inductive Ent where
  | bad (e : Int)
  | ok (x : S36) (r : ByteArray)

def ent (s : ByteArray) : Ent :=
  if Lib.indexByte s.toList 0 < 0 ∨ (s.size : Int) - Lib.indexByte s.toList 0 - 1 < 32 then .bad 4
  else match modeOf (s.extract 0 (Lib.indexByte s.toList 0).toNat) with
    | none => .bad 60
    | some (m, n) => .ok ⟨n, m, s.extract ((Lib.indexByte s.toList 0).toNat + 1) ((Lib.indexByte s.toList 0).toNat + 33)⟩ (s.extract ((Lib.indexByte s.toList 0).toNat + 33) s.size)

def entVal : Ent → ByteArray × Int × ByteArray × ByteArray × Int
  | .bad e => ((⟨#[]⟩ : ByteArray), 0, (⟨#[]⟩ : ByteArray), (⟨#[]⟩ : ByteArray), e)
  | .ok x r => (x.f0, x.f1, x.f2, r, 0)

theorem idx_word (l : List UInt8) (n : Nat) (h : Lib.indexByte l 32 = (n : Int)) (m : Int) (hm : 1 ≤ m ∧ m ≤ 3) : idx (l.take n) = m ↔ l.take ((word m).length + 1) = word m ++ [32] := by
  obtain ⟨h1, h2, h3⟩ := index_split h
  have hw : 32 ∉ word m ∧ idx (word m) = m := by
    have : m = 1 ∨ m = 2 ∨ m = 3 := by omega
    rcases this with rfl | rfl | rfl <;> decide
  constructor
  · intro hi
    have e : l.take n = word m := by
      unfold idx at hi
      split at hi
      · omega
      split at hi
      · subst hi; assumption
      split at hi
      · subst hi; assumption
      split at hi
      · subst hi; assumption
      · omega
    have hn : n = (word m).length := by
      rw [← e, List.length_take]
      omega
    rw [hn] at h1 e
    rw [e] at h1
    generalize l.drop ((word m).length + 1) = rest at h1
    rw [h1, List.append_cons]
    exact List.take_left' (by rw [List.length_append]; rfl)
  · intro ht
    have hl : l = word m ++ 32 :: l.drop ((word m).length + 1) := by
      conv => lhs; rw [← List.take_append_drop ((word m).length + 1) l, ht]
      simp
    have hi := index_first (word m) (l.drop ((word m).length + 1)) 32 hw.1
    rw [← hl, h] at hi
    have hn : n = (word m).length := by omega
    rw [hn]
    have : l.take (word m).length = word m := by
      rw [hl]
      simp
    rw [this, hw.2]

theorem modeOf_eq (h : ByteArray) (hs : h.size ≤ 140737488351232) : modeOf h = if 0 ≤ Lib.indexByte h.toList 32 ∧ 1 ≤ idx (h.toList.take (Lib.indexByte h.toList 32).toNat) then some (idx (h.toList.take (Lib.indexByte h.toList 32).toNat), h.extract ((Lib.indexByte h.toList 32).toNat + 1) h.size) else none := by
  by_cases hi : 0 ≤ Lib.indexByte h.toList 32
  · obtain ⟨n, hn⟩ := Int.eq_ofNat_of_zero_le hi
    have k1 := idx_word h.toList n hn 1 (by omega)
    have k2 := idx_word h.toList n hn 2 (by omega)
    have k3 := idx_word h.toList n hn 3 (by omega)
    rw [show (word 1).length + 1 = 5 from rfl] at k1
    rw [show (word 2).length + 1 = 4 from rfl] at k2
    rw [show (word 3).length + 1 = 5 from rfl] at k3
    rw [hn, Int.toNat_natCast]
    unfold modeOf
    have hlen : ∀ w : List UInt8, idx w ≤ 3 := by
      intro w
      unfold idx
      repeat' split
      all_goals omega
    have len : ∀ m, 1 ≤ m ∧ m ≤ 3 → idx (h.toList.take n) = m → n = (word m).length := by
      intro m hm e
      have := (idx_word h.toList n hn m hm).mp e
      have hw : 32 ∉ word m := by
        have : m = 1 ∨ m = 2 ∨ m = 3 := by omega
        rcases this with rfl | rfl | rfl <;> decide
      have hl : h.toList = word m ++ 32 :: h.toList.drop ((word m).length + 1) := by
        conv => lhs; rw [← List.take_append_drop ((word m).length + 1) h.toList, this]
        simp
      have hf := index_first (word m) (h.toList.drop ((word m).length + 1)) 32 hw
      rw [← hl, hn] at hf
      omega
    by_cases c1 : idx (h.toList.take n) = 1
    · rw [if_pos (k1.mp c1), if_pos ⟨by omega, by omega⟩, c1, len 1 (by omega) c1]
      rfl
    rw [if_neg (fun e => c1 (k1.mpr e))]
    by_cases c2 : idx (h.toList.take n) = 2
    · rw [if_pos (k2.mp c2), if_pos ⟨by omega, by omega⟩, c2, len 2 (by omega) c2]
      rfl
    rw [if_neg (fun e => c2 (k2.mpr e))]
    by_cases c3 : idx (h.toList.take n) = 3
    · rw [if_pos (k3.mp c3), if_pos ⟨by omega, by omega⟩, c3, len 3 (by omega) c3]
      rfl
    have := hlen (h.toList.take n)
    rw [if_neg (fun e => c3 (k3.mpr e)), if_neg (by omega)]
  · rw [if_neg (fun e => hi e.1)]
    have hn : 32 ∉ h.toList := (index_absent _ _).mpr (by have := Lib.indexByte_ge h.toList 32; omega)
    unfold modeOf
    have no : ∀ (k : Nat) (w : List UInt8), ¬ h.toList.take k = w ++ [32] := by
      intro k w e
      refine hn (List.mem_of_mem_take (i := k) ?_)
      rw [e]
      simp
    rw [if_neg (no _ _), if_neg (no _ _), if_neg (no _ _)]

theorem tentry (s : ByteArray) (hs : s.size ≤ 140737488351232) : Ev (fun k => tree_entry.f k s) (entVal (ent s)) := by
  unfold tree_entry.f ent
  rw [cut1 s 0 hs]
  have hge := Lib.indexByte_ge s.toList 0
  by_cases hz : 0 ≤ Lib.indexByte s.toList 0
  · rw [if_pos hz]
    simp only [Option.bind_some, if_true]
    obtain ⟨z, hz'⟩ := Int.eq_ofNat_of_zero_le hz
    obtain ⟨_, _, hlt⟩ := index_split hz'
    rw [toList_length] at hlt
    rw [hz', Int.toNat_natCast]
    by_cases hl : (s.size : Int) - z - 1 < 32
    · rw [if_pos (.inr hl)]
      refine Ev.step (f := fun _ => some _) (fun k => ?_) (Ev.now _)
      simp only [tree_entry.j0]
      rw [if_pos (decide_eq_true (by rw [extract_size]; omega))]
      rfl
    · rw [if_neg (by omega)]
      have hh : (s.extract 0 z).size ≤ 140737488351232 := by
        rw [ByteArray.size_extract]
        omega
      refine Ev.step (f := fun k => (strings_Cut.f (s.extract 0 z) (⟨#[32]⟩ : ByteArray)).bind fun bt113 => ((tree_modes.f).bind fun t116 => slices_Index_string_string.f k t116 bt113.1).bind fun t119 => (if bt113.2.2 = true then (if t119 < 1 then (some ((⟨#[]⟩ : ByteArray), 0, (⟨#[]⟩ : ByteArray), (⟨#[]⟩ : ByteArray), 60)) else some (bt113.2.1, t119, (s.extract (z + 1) s.size).extract 0 32, (s.extract (z + 1) s.size).extract 32 (s.extract (z + 1) s.size).size, 0)) else (some ((⟨#[]⟩ : ByteArray), 0, (⟨#[]⟩ : ByteArray), (⟨#[]⟩ : ByteArray), 60)))) (fun k => ?_) ?_
      · simp only [tree_entry.j0]
        rw [if_neg (by rw [decide_eq_false (by rw [extract_size]; omega)]; simp)]
        congr 1
        funext bt
        rw [Option.bind_assoc]
        congr 1
        funext t
        congr 1
        funext u
        by_cases hb : bt.2.2 = true
        · rw [if_pos hb, if_pos hb]
          by_cases hu : u < 1
          · rw [if_pos hu, if_pos hu]
          · rw [if_neg hu, if_neg hu, if_pos (show (0 : Nat) ≤ 32 by omega), if_pos (by rw [extract_size]; omega)]
        · rw [if_neg hb, if_neg hb]
      · have me := modeOf_eq _ hh
        rw [cut1 _ 32 hh]
        generalize s.extract 0 z = h at *
        by_cases hi : 0 ≤ Lib.indexByte h.toList 32
        · rw [if_pos hi]
          simp only [Option.bind_some, if_true]
          have im := index_modes (h.extract 0 (Lib.indexByte h.toList 32).toNat)
          rw [toList_extract, List.drop_zero, Nat.sub_zero] at im
          refine Ev.bind im ?_
          by_cases hx : 1 ≤ idx (h.toList.take (Lib.indexByte h.toList 32).toNat)
          · rw [me.trans (if_pos ⟨hi, hx⟩)]
            refine Ev.congr (fun k => if_neg (by omega)) ?_
            have e1 : (s.extract (z + 1) s.size).extract 0 32 = s.extract (z + 1) (z + 33) := by
              apply ba_ext
              rw [toList_extract, toList_from, toList_extract, List.drop_zero]
              congr 1
              omega
            rw [extract_extract, e1]
            exact Ev.now _
          · rw [me.trans (if_neg (fun e => hx e.2))]
            exact Ev.congr (fun k => if_pos (by omega)) (Ev.now _)
        · rw [if_neg hi]
          simp only [Option.bind_some]
          refine Ev.bind (index_modes h) ?_
          rw [me.trans (if_neg (fun e => hi e.1))]
          exact Ev.congr (fun k => if_neg (by simp)) (Ev.now _)
  · rw [if_neg hz, if_pos (.inl (by omega))]
    simp only [Option.bind_some]
    refine Ev.step (f := fun _ => some _) (fun k => ?_) (Ev.now _)
    rw [if_neg (by simp)]
    simp only [tree_entry.j0]
    rfl
end Go.Proofs.Ytopdlgdacbonpaa.Pl
