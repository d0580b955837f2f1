/- A line behind a word; what an id's digits are: what the program and the reference come to. -/
import Derived.Test.YtnapcfpecpgdbaaDoorPl07h
import Derived.Test.YtnapcfpecpgdbaaDoorPlCutp
import Derived.Test.YtnapcfpecpgdbaaDoorMx8
import Derived.Test.YtnapcfpecpgdbaaDoorMx19
import Derived.Test.YtnapcfpecpgdbaaDoorMx6
import Derived.Test.YtnapcfpecpgdbaaDoorMx9
import Derived.Test.YtnapcfpecpgdbaaDoorMx20
import Derived.Test.YtnapcfpecpgdbaaDoorMx2
namespace Go.Proofs.YtnapcfpecpgdbaaDoor.Pl
set_option linter.unusedVariables false
set_option linter.unusedSimpArgs false
open Go.RowKit Go.Proofs.YtnapcfpecpgdbaaDoor.M Go.Proofs.YtnapcfpecpgdbaaDoorW.PrintWords Go.Proofs.YtnapcfpecpgdbaaDoorW.PrintLast

/-- What stands behind a word on the first line, and what behind that. -/
def lineL (l w : List UInt8) : Option (List UInt8 × List UInt8) :=
 if ((w.length : Int) + 1 ≤ Lib.indexByte l 10) ∧ l.take (w.length + 1) = w ++ [32] then some ((l.take (Lib.indexByte l 10).toNat).drop (w.length + 1), l.drop ((Lib.indexByte l 10).toNat + 1)) else none
theorem index_bounds (l : List UInt8) (c : UInt8) : Lib.indexByte l c < (l.length : Int) ∧ -1 ≤ Lib.indexByte l c := by
 induction l with
 | nil => simp [Lib.indexByte]
 | cons b l ih =>
  rw [index_cons]
  simp only [List.length_cons]
  split
  · omega
  · split
    · omega
    · omega
theorem lineL_back {l w t r : List UInt8} (h : lineL l w = some (t, r)) : l = w ++ 32 :: (t ++ 10 :: r) ∧ 10 ∉ t := by
 unfold lineL at h
 split at h
 ·
  rename_i hc
  have h2 := Option.some.inj h
  have h3 : (l.take (Lib.indexByte l 10).toNat).drop (w.length + 1) = t := congrArg Prod.fst h2
  have h4 : l.drop ((Lib.indexByte l 10).toNat + 1) = r := congrArg Prod.snd h2
  obtain ⟨n, hn⟩ : ∃ n : Nat, Lib.indexByte l 10 = (n : Int) := ⟨(Lib.indexByte l 10).toNat, by omega⟩
  obtain ⟨s1, s2, s3⟩ := index_split hn
  rw [hn] at h3 h4 hc
  rw [Int.toNat_natCast] at h3 h4
  have h5 : l.take n = (l.take n).take (w.length + 1) ++ (l.take n).drop (w.length + 1) := (List.take_append_drop _ _).symm
  rw [List.take_take, Nat.min_eq_left (by omega), hc.2, h3] at h5
  refine ⟨?_, fun hm => s2 ?_⟩
  · conv => lhs; rw [s1]
    rw [h5, h4]
    simp
  · rw [h5]
    exact List.mem_append_right _ hm
 · cases h
theorem prog_line (s w : ByteArray) (hs : s.size ≤ 70368744177664) (hw : w.size ≤ 100) : ∃ p q, ob_line.f s w = some (p, q, (lineL s.toList w.toList).isSome) ∧ p.size ≤ s.size ∧ q.size ≤ s.size ∧ ∀ t r, lineL s.toList w.toList = some (t, r) → p = mk t ∧ q = mk r := by
 have hc := cutV_size s 10
 have e1 : (⟨#[32]⟩ : ByteArray).size = 1 := rfl
 have e2 : (⟨#[32]⟩ : ByteArray).toList = [32] := toList_lit [32]
 have ez : (w ++ (⟨#[32]⟩ : ByteArray)).size = w.size + 1 := by rw [ByteArray.size_append, e1]
 have hp := cutp (cutV s 10).1 (w ++ (⟨#[32]⟩ : ByteArray))
 rw [ez, toList_append, e2] at hp
 have hb := index_bounds s.toList 10
 rw [toList_length] at hb
 have hlw := toList_length w
 unfold ob_line.f
 rw [cut_eq s 10 (by omega), Option.bind_some, if_pos (by omega), hp]
 by_cases hi : 0 ≤ Lib.indexByte s.toList 10
 ·
  obtain ⟨n, hn⟩ : ∃ n : Nat, Lib.indexByte s.toList 10 = (n : Int) := ⟨(Lib.indexByte s.toList 10).toNat, by omega⟩
  have hcv : cutV s 10 = (s.extract 0 n, s.extract (n + 1) s.size, true) := by
   unfold cutV
   rw [if_pos hi, hn, Int.toNat_natCast]
  have hsz : (s.extract 0 n).size = n := by rw [ByteArray.size_extract]; omega
  rw [hcv]
  simp only [hsz]
  by_cases hk : w.size + 1 ≤ n ∧ ((s.extract 0 n).extract 0 (w.size + 1)).toList = w.toList ++ [32]
  ·
   rw [if_pos hk]
   have hl : lineL s.toList w.toList = some ((s.toList.take n).drop (w.size + 1), s.toList.drop (n + 1)) := by
    unfold lineL
    rw [hn, hlw, if_pos, Int.toNat_natCast]
    refine ⟨by omega, ?_⟩
    rw [← hk.2, toList_extract, toList_extract, List.drop_zero, List.drop_zero, Nat.sub_zero, Nat.sub_zero, List.take_take, Nat.min_eq_left hk.1]
   rw [hl]
   refine ⟨(s.extract 0 n).extract (w.size + 1) n, s.extract (n + 1) s.size, rfl, by simp only [ByteArray.size_extract]; omega, by simp only [ByteArray.size_extract]; omega, ?_⟩
   intro t r htr
   obtain ⟨rfl, rfl⟩ := Prod.mk.inj (Option.some.inj htr)
   constructor
   · apply ba_ext
     rw [toList_mk, toList_extract, toList_extract, List.drop_zero, Nat.sub_zero]
     exact List.take_of_length_le (by rw [List.length_drop, List.length_take]; omega)
   · apply ba_ext
     rw [toList_mk, toList_from]
  · rw [if_neg hk]
    have hl : lineL s.toList w.toList = none := by
     unfold lineL
     rw [hn, hlw, if_neg]
     rintro ⟨h1, h2⟩
     refine hk ⟨by omega, ?_⟩
     rw [← h2, toList_extract, toList_extract, List.drop_zero, List.drop_zero, Nat.sub_zero, Nat.sub_zero, List.take_take, Nat.min_eq_left (by omega)]
    rw [hl]
    exact ⟨s.extract 0 n, s.extract (n + 1) s.size, rfl, by simp only [ByteArray.size_extract]; omega, by simp only [ByteArray.size_extract]; omega, fun t r h => by cases h⟩
 · have hcv : cutV s 10 = (s, (⟨#[]⟩ : ByteArray), false) := by
    unfold cutV
    rw [if_neg hi]
   have hl : lineL s.toList w.toList = none := by
    unfold lineL
    rw [if_neg (fun h => by omega)]
   rw [hcv, hl]
   by_cases hk : w.size + 1 ≤ s.size ∧ (s.extract 0 (w.size + 1)).toList = w.toList ++ [32]
   · simp only [if_pos hk]
     exact ⟨s.extract (w.size + 1) s.size, ⟨#[]⟩, rfl, by simp only [ByteArray.size_extract]; omega, Nat.zero_le _, fun t r h => by cases h⟩
   · simp only [if_neg hk]
     exact ⟨s, ⟨#[]⟩, rfl, Nat.le_refl _, Nat.zero_le _, fun t r h => by cases h⟩
theorem index_l0 (s : ByteArray) (hs : s.size ≤ 70368744177664) (c : UInt8) : ∀ (l : List UInt8) (i : Nat), s.toList.drop i = l → Ev (fun k => r7_index.l0 k s (c.toNat : Int) (i : Int)) (if Lib.indexByte l c = -1 then -1 else Lib.indexByte l c + i)
 | [], i, hl => by
  have hle : s.size ≤ i := by
   rw [← toList_length]
   exact List.drop_eq_nil_iff.mp hl
  refine Ev.step (f := fun _ => some (-1)) (fun k => ?_) ?_
  · rw [r7_index.l0, if_neg (by omega)]
  · exact Ev.now _
 | b :: l, i, hl => by
  obtain ⟨hb, hlt, hl2⟩ := bt_drop hl
  have hbd := index_bounds l c
  rw [index_cons]
  by_cases hbc : b = c
  · refine Ev.step (f := fun _ => some (i : Int)) (fun k => ?_) ?_
    · rw [r7_index.l0, if_pos (by omega), if_pos (by omega), hb, hbc, if_pos rfl]
    · rw [if_pos hbc, if_neg (by omega)]
      simp only [Int.zero_add]
      exact Ev.now _
  ·
   have hne : ¬ (b.toNat : Int) = (c.toNat : Int) := fun h => hbc (UInt8.toNat_inj.mp (by omega))
   refine Ev.step (f := fun k => r7_index.l0 k s (c.toNat : Int) ((i + 1 : Nat) : Int)) (fun k => ?_) ?_
   · rw [r7_index.l0, if_pos (by omega), if_pos (by omega), hb, if_neg hne, w64 (by omega) (by omega)]
     rfl
   · rw [if_neg hbc]
     have ih := index_l0 s hs c l (i + 1) hl2
     by_cases hm : Lib.indexByte l c = -1
     · rw [if_pos hm] at ih
       rw [if_pos hm, if_pos rfl]
       exact ih
     · rw [if_neg hm] at ih
       rw [if_neg hm, if_neg (by omega)]
       have e : Lib.indexByte l c + ((i + 1 : Nat) : Int) = Lib.indexByte l c + 1 + (i : Int) := by omega
       rw [← e]
       exact ih
theorem index_ref (s : ByteArray) (hs : s.size ≤ 70368744177664) (c : UInt8) : Ev (fun k => r7_index.f k s (c.toNat : Int)) (Lib.indexByte s.toList c) := by
 have := index_l0 s hs c s.toList 0 rfl
 have e : (if Lib.indexByte s.toList c = -1 then -1 else Lib.indexByte s.toList c + ((0 : Nat) : Int)) = Lib.indexByte s.toList c := by
  split
  · rename_i h
    exact h.symm
  · omega
 rw [e] at this
 exact this
theorem ref_line (s w : ByteArray) (hs : s.size ≤ 70368744177664) (hw : w.size ≤ 100) : ∃ p q, Ev (fun k => r7_line.f k s w) (p, q, (lineL s.toList w.toList).isSome) ∧ p.size ≤ s.size ∧ q.size ≤ s.size ∧ ∀ t r, lineL s.toList w.toList = some (t, r) → p = mk t ∧ q = mk r := by
 have e1 : (⟨#[32]⟩ : ByteArray).size = 1 := rfl
 have e2 : (⟨#[32]⟩ : ByteArray).toList = [32] := toList_lit [32]
 have hb := index_bounds s.toList 10
 rw [toList_length] at hb
 have hlw := toList_length w
 have hx := index_ref s hs 10
 have hww : wrap64 ((w.size : Int) + 1) = ((w.size + 1 : Nat) : Int) := by rw [w64 (by omega) (by omega)]; rfl
 unfold r7_line.f
 by_cases hi : (w.size : Int) + 1 ≤ Lib.indexByte s.toList 10
 ·
  obtain ⟨n, hn⟩ : ∃ n : Nat, Lib.indexByte s.toList 10 = (n : Int) := ⟨(Lib.indexByte s.toList 10).toNat, by omega⟩
  have hnw : wrap64 ((n : Int) + 1) = ((n + 1 : Nat) : Int) := by rw [w64 (by omega) (by omega)]; rfl
  by_cases hk : s.toList.take (w.size + 1) = w.toList ++ [32]
  ·
   have hl : lineL s.toList w.toList = some ((s.toList.take n).drop (w.size + 1), s.toList.drop (n + 1)) := by
    unfold lineL
    rw [hn, hlw, if_pos ⟨by omega, hk⟩, Int.toNat_natCast]
   rw [hl]
   refine ⟨s.extract (w.size + 1) n, s.extract (n + 1) s.size, ?_, by simp only [ByteArray.size_extract]; omega, by simp only [ByteArray.size_extract]; omega, ?_⟩
   · refine Ev.bind hx ?_
     rw [hn]
     simp only [hww, hnw, Int.toNat_natCast]
     rw [toList_append, e2, toList_extract, List.drop_zero, Nat.sub_zero]
     simp only [if_neg (show ¬ (n : Int) < ((w.size + 1 : Nat) : Int) by omega), if_pos (show (0 : Int) ≤ ((w.size + 1 : Nat) : Int) by omega), if_pos (show ((w.size + 1 : Nat) : Int) ≤ (s.size : Int) by omega), if_pos (show w.size + 1 ≤ 9223372036854775807 by omega), if_pos hk, if_pos (show ((w.size + 1 : Nat) : Int) ≤ (n : Int) by omega), if_pos (show (n : Int) ≤ (s.size : Int) by omega), if_pos (show (0 : Int) ≤ ((n + 1 : Nat) : Int) by omega), if_pos (show ((n + 1 : Nat) : Int) ≤ (s.size : Int) by omega)]
     exact Ev.now _
   · intro t r htr
     obtain ⟨rfl, rfl⟩ := Prod.mk.inj (Option.some.inj htr)
     constructor
     · apply ba_ext
       rw [toList_mk, toList_extract, List.drop_take]
     · apply ba_ext
       rw [toList_mk, toList_from]
  · have hl : lineL s.toList w.toList = none := by
     unfold lineL
     rw [hn, hlw, if_neg (fun h => hk h.2)]
    rw [hl]
    refine ⟨⟨#[]⟩, s, ?_, Nat.zero_le _, Nat.le_refl _, fun t r h => by cases h⟩
    refine Ev.bind hx ?_
    rw [hn]
    simp only [hww, hnw, Int.toNat_natCast]
    rw [toList_append, e2, toList_extract, List.drop_zero, Nat.sub_zero]
    simp only [if_neg (show ¬ (n : Int) < ((w.size + 1 : Nat) : Int) by omega), if_pos (show (0 : Int) ≤ ((w.size + 1 : Nat) : Int) by omega), if_pos (show ((w.size + 1 : Nat) : Int) ≤ (s.size : Int) by omega), if_pos (show w.size + 1 ≤ 9223372036854775807 by omega), if_neg hk]
    exact Ev.now _
 · have hl : lineL s.toList w.toList = none := by
    unfold lineL
    rw [if_neg (fun h => hi (by rw [hlw] at h; exact h.1))]
   rw [hl]
   refine ⟨⟨#[]⟩, s, ?_, Nat.zero_le _, Nat.le_refl _, fun t r h => by cases h⟩
   refine Ev.bind hx ?_
   simp only [hww, if_pos (show Lib.indexByte s.toList 10 < ((w.size + 1 : Nat) : Int) by omega)]
   exact Ev.now _
/-- The id of digits; false: they are none. -/
def idV (l : List UInt8) : ByteArray × Bool := match unhexL l with
 | none => (⟨#[]⟩, false)
 | some r => (mk r, decide (r.length = 32))
theorem id_prog (s : ByteArray) (hs : s.size ≤ 70368744177664) : ob_idOf.f s = some (idV s.toList) := by
 unfold ob_idOf.f idV
 rw [unhex_prog s hs, Option.bind_some, unhexV]
 cases unhexL s.toList with
 | none => rfl
 | some r =>
  simp only [if_true, mk_size]
  congr 2
  by_cases h : r.length = 32
  · simp [h]
  · simp [h]
    omega
theorem id_ref (s : ByteArray) (hs : s.size ≤ 70368744177664) : Ev (fun k => r7_id.f k s) (idV s.toList) := by
 unfold r7_id.f
 refine Ev.bind (unhex_ref s hs) ?_
 unfold unhexV idV
 cases unhexL s.toList with
 | none => exact Ev.now _
 | some r =>
  simp only [if_true, mk_size]
  have e : ((r.length : Int) == 32) = decide (r.length = 32) := by
   by_cases h : r.length = 32
   · simp [h]
   · simp [h]
     omega
  rw [e]
  exact Ev.now _
/-- The law's own cut. -/
def fewV (s : ByteArray) : ByteArray := if s.size > 5000 then s.extract 0 5000 else s
theorem few_eq (s : ByteArray) : l7_few.f s = some (fewV s) := by
 unfold l7_few.f fewV
 by_cases h : s.size > 5000
 · rw [if_pos (by omega), if_pos (by omega), if_pos (by omega), if_pos h]
 · rw [if_neg (by omega), if_neg h]
theorem few_size (s : ByteArray) : (fewV s).size ≤ 5000 := by
 unfold fewV
 split
 · rw [ByteArray.size_extract]
   omega
 · omega
end Go.Proofs.YtnapcfpecpgdbaaDoor.Pl
