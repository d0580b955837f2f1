/- The program's functions as plain functions, and that each call comes to what these tell; written by a program of this session, some contracts by hand. Conditions: none. -/
import Derived.Test.YtnapcfpecpgdbaaDoorMx0
import Derived.Test.YtnapcfpecpgdbaaDoorMx2
namespace Go.Proofs.YtnapcfpecpgdbaaDoor.M
open Go.RowKit Go.Proofs.YtnapcfpecpgdbaaDoorW.PrintWords Go.Proofs.YtnapcfpecpgdbaaDoorW.PrintLast Go.Proofs.YtnapcfpecpgdbaaDoorW.PrintMore
attribute [local go_sem] max2_int min2_int max_two min_two max_three min_three max_four min_four   -- for this text's walks alone
set_option linter.unusedVariables false
set_option linter.unusedSimpArgs false

/-! ### label_plain: function 78 -/
def label_plain.f (a0 : Int) : Option (Bool) := if a0 ≥ 32 then (if a0 = 47 then (some false) else (if a0 = 65533 then (some false) else (if a0 < 127 then (some true) else (some (decide (a0 > 159)))))) else (some false)
set_option maxHeartbeats 8000000 in
set_option maxRecDepth 100000 in
theorem label_plain.calls (a0 : Int) (r : Bool) (w : World) (h : label_plain.f a0 = some r) :
 Calls Tryd.prog 78 #[.int .i32 a0] w fun e w' => e = .returned (.bool r) ∧ Drawn0 w w' := by
 have H : (if a0 ≥ 32 then (if a0 = 47 then (some false) else (if a0 = 65533 then (some false) else (if a0 < 127 then (some true) else (some (decide (a0 > 159)))))) else (some false)) = some r := h
 clear h
 by_cases c2 : a0 ≥ 32
 ·
  rw [if_pos c2] at H
  have c2b0 : decide (32 ≤ a0) = true := decide_eq_true c2
  clear c2
  by_cases c3 : a0 = 47
  · rw [if_pos c3] at H
    have c3b0 : (a0 == 47) = true := beq_iff_eq.mpr c3
    have c3b1 : (a0 != 47) = false := bne_eq_false_iff_eq.mpr c3
    clear c3
    obtain rfl := Option.some.inj H
    go_enter Tryd.func78, Tryd.ntmps78
    go_wp2
    go_ret
    exact ⟨ez_, dz_⟩
  ·
   rw [if_neg c3] at H
   have c3b0 : (a0 == 47) = false := beq_eq_false_iff_ne.mpr c3
   have c3b1 : (a0 != 47) = true := bne_iff_ne.mpr c3
   by_cases c4 : a0 = 65533
   · rw [if_pos c4] at H
     have c4b0 : (a0 == 65533) = true := beq_iff_eq.mpr c4
     have c4b1 : (a0 != 65533) = false := bne_eq_false_iff_eq.mpr c4
     clear c4
     obtain rfl := Option.some.inj H
     go_enter Tryd.func78, Tryd.ntmps78
     go_wp2
     go_ret
     exact ⟨ez_, dz_⟩
   ·
    rw [if_neg c4] at H
    have c4b0 : (a0 == 65533) = false := beq_eq_false_iff_ne.mpr c4
    have c4b1 : (a0 != 65533) = true := bne_iff_ne.mpr c4
    by_cases c5 : a0 < 127
    · rw [if_pos c5] at H
      have c5b0 : decide (a0 < 127) = true := decide_eq_true c5
      clear c5
      obtain rfl := Option.some.inj H
      go_enter Tryd.func78, Tryd.ntmps78
      go_wp2
      go_ret
      exact ⟨ez_, dz_⟩
    · rw [if_neg c5] at H
      have c5b0 : decide (a0 < 127) = false := decide_eq_false c5
      clear c5
      obtain rfl := Option.some.inj H
      go_enter Tryd.func78, Tryd.ntmps78
      go_wp2
      go_ret
      exact ⟨ez_, dz_⟩
 · rw [if_neg c2] at H
   have c2b0 : decide (32 ≤ a0) = false := decide_eq_false c2
   clear c2
   obtain rfl := Option.some.inj H
   go_enter Tryd.func78, Tryd.ntmps78
   go_wp2
   go_ret
   exact ⟨ez_, dz_⟩

/-! ### label_Name: function 59 (given by hand) -/
/-- Are the runes from place pos on such as may stand in a name? -/
def label_Name.go (s : ByteArray) : Nat → Nat → Bool
 | 0, _ => true
 | n + 1, pos => if pos < s.size then (if label_plain.f ((Utf8.decode s pos).1 : Int) = some false then false else label_Name.go s n (pos + (Utf8.decode s pos).2)) else true
def label_Name.f (a0 : ByteArray) : Option (Bool) := if a0.toList = ([] : List UInt8) then some false else (if (a0.size : Int) > 64 then some false else (if a0.toList = ([46] : List UInt8) then some false else (if a0.toList = ([46, 46] : List UInt8) then some false else some (label_Name.go a0 a0.size 0))))
theorem label_Name.go_end (s : ByteArray) (n pos : Nat) (h : ¬ pos < s.size) : label_Name.go s n pos = true := by
 cases n with
 | zero => rfl
 | succ n => simp [label_Name.go, h]
theorem label_Name.width_pos (s : ByteArray) (pos : Nat) (h : pos < s.size) : 1 ≤ (Utf8.decode s pos).2 := by
 by_cases ha : (s[pos]'h).toNat < 128
 · rw [decode_ascii s pos h ha]
   exact Nat.le_refl _
 · exact (decode_high s pos h (by omega)).2
theorem label_Name.plain_some (c : Int) : ∃ r, label_plain.f c = some r := by
 unfold label_plain.f
 repeat' split
 all_goals exact ⟨_, rfl⟩
set_option maxHeartbeats 4000000 in
set_option maxRecDepth 1000000 in
theorem label_Name.calls (a0 : ByteArray) (r : Bool) (w : World) (h : label_Name.f a0 = some r) :
 Calls Tryd.prog 59 #[.string a0] w fun e w' => e = .returned (.bool r) ∧ Below w.heap.size w w' := by
 unfold label_Name.f at h
 by_cases c3 : a0.toList = ([] : List UInt8)
 · rw [if_pos c3] at h
   obtain rfl := Option.some.inj h
   have c3b0 : (a0.toList == ([] : List UInt8)) = true := beq_iff_eq.mpr c3
   clear c3 h
   go_enter Tryd.func59, Tryd.ntmps59
   go_wp2_with fail
   go_ret
   exact ⟨rfl, Below.refl _ _⟩
 rw [if_neg c3] at h
 have c3b0 : (a0.toList == ([] : List UInt8)) = false := beq_eq_false_iff_ne.mpr c3
 by_cases c4 : (a0.size : Int) > 64
 · rw [if_pos c4] at h
   obtain rfl := Option.some.inj h
   have c4b0 : decide (64 < (a0.size : Int)) = true := decide_eq_true c4
   have c4b1 : decide (64 < a0.size) = true := decide_eq_true (by omega)
   clear c3 c4 h
   go_enter Tryd.func59, Tryd.ntmps59
   go_wp2_with fail
   go_ret
   exact ⟨rfl, Below.refl _ _⟩
 rw [if_neg c4] at h
 have hs : a0.size ≤ 64 := by omega
 have c4b0 : decide (64 < (a0.size : Int)) = false := decide_eq_false c4
 have c4b1 : decide (64 < a0.size) = false := decide_eq_false (by omega)
 clear c4
 by_cases c5 : a0.toList = ([46] : List UInt8)
 · rw [if_pos c5] at h
   obtain rfl := Option.some.inj h
   have c5b0 : (a0.toList == ([46] : List UInt8)) = true := beq_iff_eq.mpr c5
   clear c3 c5 h
   go_enter Tryd.func59, Tryd.ntmps59
   go_wp2_with fail
   go_ret
   exact ⟨rfl, Below.refl _ _⟩
 rw [if_neg c5] at h
 have c5b0 : (a0.toList == ([46] : List UInt8)) = false := beq_eq_false_iff_ne.mpr c5
 clear c5
 by_cases c6 : a0.toList = ([46, 46] : List UInt8)
 · rw [if_pos c6] at h
   obtain rfl := Option.some.inj h
   have c6b0 : (a0.toList == ([46, 46] : List UInt8)) = true := beq_iff_eq.mpr c6
   clear c3 c6 h
   go_enter Tryd.func59, Tryd.ntmps59
   go_wp2_with fail
   go_ret
   exact ⟨rfl, Below.refl _ _⟩
 rw [if_neg c6] at h
 have c6b0 : (a0.toList == ([46, 46] : List UInt8)) = false := beq_eq_false_iff_ne.mpr c6
 have H := Aside0.mk (Option.some.inj h)
 clear c3 c6 h
 go_enter Tryd.func59, Tryd.ntmps59
 go_wp2_with fail
 clear c3b0 c4b0 c4b1 c5b0 c6b0
 go_loopw [] (fun wr => ∃ (pos fuel : Nat), wr.heap[w.heap.size]? = some (.stringIter a0 pos) ∧ Below w.heap.size w wr ∧ Aside0 (label_Name.go a0 fuel pos = r) ∧ pos ≤ a0.size + 4 ∧ a0.size ≤ pos + fuel) (fun wr => a0.size - wr.iterPos w.heap.size)
 case atStart =>
  exact ⟨0, a0.size, World.iter_heap w a0 0, (Below.refl _ w).alloc (Nat.le_refl _) _, H, by omega, by omega⟩
 case round =>
  obtain ⟨pos, fuel, hit, hbw, HG, hp4, hfu⟩ := hrel
  clear H
  by_cases hp : pos < a0.size
  ·
   have hnx : ∀ ty, (Instr.next (.pointer (some ⟨w.heap.size, 0, none⟩)) true ty).run Tryd.prog wr = _ := fun ty => Lib.run_next_any_at wr w.heap.size a0 pos ty hit hp
   have hwd := label_Name.width_pos a0 pos hp
   have hw4 : (Utf8.decode a0 pos).2 ≤ 4 := by
    simp only [Utf8.decode]
    repeat' split
    all_goals simp
   have hit2 := Lib.iterAt_heap wr w.heap.size a0 pos (pos + (Utf8.decode a0 pos).2) hit
   have hbw2 := Lib.below_iterAt hbw (k := w.heap.size) (Nat.le_refl _) a0 (pos + (Utf8.decode a0 pos).2)
   obtain ⟨f, rfl⟩ : ∃ f, fuel = f + 1 := ⟨fuel - 1, by omega⟩
   have HG' := HG.out
   simp only [label_Name.go, if_pos hp] at HG'
   obtain ⟨q, hq⟩ := label_Name.plain_some ((Utf8.decode a0 pos).1 : Int)
   rw [hq] at HG'
   have Q := Aside0.mk hq
   clear hq HG
   cases q with
   | false =>
    rw [if_pos rfl] at HG'
    subst HG'
    go_wp2_with (go_at_call 78; refine (label_plain.calls _ false _ Q.out).mono ?_; rintro e w' ⟨rfl, ⟨nd, rfl⟩⟩)
    go_ret
    exact ⟨rfl, pw_below_drewN hbw2 _⟩
   | true =>
    rw [if_neg (by simp)] at HG'
    have HG := Aside0.mk HG'
    clear HG'
    go_wp2_with (go_at_call 78; refine (label_plain.calls _ true _ Q.out).mono ?_; rintro e w' ⟨rfl, ⟨nd, rfl⟩⟩)
    go_roundw
    case rel => exact ⟨pos + (Utf8.decode a0 pos).2, f, hit2, pw_below_drewN hbw2 _, HG, by omega, by omega⟩
    case measure =>
     simp only [World.iterPos, hit]
     rw [show ((wr.iterAt w.heap.size a0 (pos + (Utf8.decode a0 pos).2)).drewN nd).heap[w.heap.size]? = _ from hit2]
     simp only
     omega
  · have hnx : ∀ ty, (Instr.next (.pointer (some ⟨w.heap.size, 0, none⟩)) true ty).run Tryd.prog wr = _ := fun ty => Lib.run_next_end_at wr w.heap.size a0 pos ty hit hp
    have HG' := HG.out
    rw [label_Name.go_end a0 fuel pos hp] at HG'
    subst HG'
    go_wp2_with fail
    go_ret
    exact ⟨rfl, hbw⟩


/-! ### ob_author: function 37 (given by hand) -/
/-- A text, '-' for each '/'. -/
def ob_author.rep (l : List UInt8) : List UInt8 := l.map fun x => if x = 47 then 45 else x
def ob_author.f (a0 : ByteArray) : Option Bool := if a0.size ≤ 1000000 then (if a0.size = 0 then some false else label_Name.f ⟨(ob_author.rep a0.data.toList).toArray⟩) else none
theorem ob_author.rep_append (a b : List UInt8) : ob_author.rep (a ++ b) = ob_author.rep a ++ ob_author.rep b := List.map_append
theorem ob_author.rep_none : ∀ l : List UInt8, l.count 47 = 0 → ob_author.rep l = l
 | [], _ => rfl
 | x :: l, h => by
  rw [List.count_cons] at h
  have hx : ¬ x = 47 := by
   intro hx
   simp [hx] at h
  have hl : l.count 47 = 0 := by omega
  have ih := ob_author.rep_none l hl
  unfold ob_author.rep at ih ⊢
  rw [List.map_cons, if_neg hx, ih]
/-- Where the next one is. -/
theorem ob_author.next : ∀ l : List UInt8, 0 < l.count 47 → ∃ j : Nat, Lib.indexByte l 47 = (j : Int) ∧ j < l.length ∧ ob_author.rep (l.take (j + 1)) = l.take j ++ [45] ∧ (l.drop (j + 1)).count 47 + 1 = l.count 47
 | [], h => by simp at h
 | x :: l, h => by
  by_cases hx : x = 47
  · refine ⟨0, by simp [Lib.indexByte, hx], by simp, by simp [ob_author.rep, hx], ?_⟩
    rw [List.drop_succ_cons, List.drop_zero, List.count_cons, hx]
    simp
  · have hc : l.count 47 = (x :: l).count 47 := by rw [List.count_cons]; simp [hx]
    obtain ⟨j, h1, h2, h3, h4⟩ := ob_author.next l (by omega)
    refine ⟨j + 1, ?_, by simp; omega, ?_, ?_⟩
    · simp only [Lib.indexByte, h1]
      have e1 : (x == 47) = false := beq_eq_false_iff_ne.mpr hx
      simp only [e1]
      simp
    · rw [List.take_succ_cons, List.take_succ_cons]
      unfold ob_author.rep at h3 ⊢
      rw [List.map_cons, if_neg hx, h3]
      rfl
    · rw [List.drop_succ_cons, h4, hc]
set_option maxHeartbeats 8000000 in
set_option maxRecDepth 100000 in
theorem ob_author.replace (s : ByteArray) (w : World) (hs : s.size ≤ 1000000) :
 Calls Tryd.prog 79 #[.string s, .string ⟨#[47]⟩, .string ⟨#[45]⟩, .int .i64 (-1)] w fun e w' => e = .returned (.string ⟨(ob_author.rep s.data.toList).toArray⟩) ∧ Below w.heap.size w w' := by
 have HS := Aside0.mk hs
 obtain ⟨cn, hcn⟩ : ∃ cn, s.data.toList.count 47 = cn := ⟨_, rfl⟩
 have hcn2 : Lib.countByte s.data.toList 47 = cn := hcn
 have hcc := fun W => Tryd.strings_Count_one s 47 W
 rw [hcn2] at hcc
 have HC := Aside0.mk hcc
 have HN := Aside0.mk hcn
 clear hs hcn2 hcc
 go_enter Tryd.func79, Tryd.ntmps79
 by_cases hz : cn = 0
 · subst hz
   go_wp2_with (go_at_call 89; go_must (refine (HC.out _).mono ?_; rintro e w2 ⟨rfl, hw⟩; (have hw := hw.symm); subst hw))
   go_ret
   refine ⟨?_, Below.refl _ _⟩
   rw [ob_author.rep_none _ hcn]
   rfl
 ·
  have hz1 : ((cn : Int) == 0) = false := beq_eq_false_iff_ne.mpr (by omega)
  have WS : Aside0 (wrap64 (s.size : Int) = (s.size : Int)) := ⟨by have := HS.out; unfold wrap64; omega⟩
  have hb0 := heap_alloc_new w (.cells #[.pointer none, .slice none 0 0] 98)
  have hB0 := below_alloc (Below.refl w.heap.size w) (.cells #[.pointer none, .slice none 0 0] 98)
  go_upto_region 10 with (first | (go_at_call 89; go_must (refine (HC.out _).mono ?_; rintro e w2 ⟨rfl, hw⟩; (have hw := hw.symm); subst hw)) | (go_at_call 90; rw [WS.out]; go_must (refine (Tryd.builder_Grow w.heap.size w.heap.size s.size _ (Nat.le_refl _) hb0 (by simp) (by have := HS.out; omega)).mono ?_; rintro e w1 ⟨rfl, hG, hBG⟩)))
  have HG : Aside0 (Lib.IsBuilderF 98 5 w.heap.size w.heap.size (Lib.byteCells []) w1) := ⟨.inr (Lib.BuilderAtF.of hG)⟩
  have HB := Aside0.mk (hB0.trans hBG)
  clear hG hBG hb0 hB0 WS HC
  go_wp2_with fail
  go_loopw [11, 53] (fun u11 u53 wr => ∃ (i start : Nat), u53 = .int .i64 i ∧ u11 = .int .i64 start ∧ start ≤ s.size ∧ Aside0 ((s.data.toList.drop start).count 47 + i = cn) ∧ Aside0 (Lib.IsBuilderF 98 5 w.heap.size w.heap.size (Lib.byteCells (ob_author.rep (s.data.toList.take start))) wr) ∧ Aside0 (Below w.heap.size w wr)) (fun _ u53 _ => cn - (intOf u53).toNat)
  case atStart => exact ⟨0, 0, rfl, rfl, by omega, ⟨by rw [List.drop_zero]; exact hcn⟩, ⟨by rw [List.take_zero]; exact HG.out⟩, HB⟩
  case round =>
   clear HG HB
   obtain ⟨i, start, rfl, rfl, hst, HK, HG, HB⟩ := hrel
   have hs := HS.out
   have hcs : cn ≤ s.size := by
    rw [← hcn]
    exact Nat.le_trans List.count_le_length (by rw [Array.length_toList]; exact Nat.le_refl _)
   by_cases hlt : i < cn
   ·
    have hltI : (i : Int) < (cn : Int) := by omega
    obtain ⟨j, hj1, hj2, hj3, hj4⟩ := ob_author.next (s.data.toList.drop start) (by have := HK.out; omega)
    have hlen : s.data.toList.length = s.size := by rw [Array.length_toList]; rfl
    rw [List.length_drop, hlen] at hj2
    have hb1 : start + j < s.size := by omega
    have c1 : (0 : Int) ≤ (start : Int) := by omega
    have c2 : (start : Int) ≤ (s.size : Int) := by omega
    have c3 : (start : Int) ≤ (start : Int) + (j : Int) := by omega
    have c4 : (start : Int) + (j : Int) ≤ (s.size : Int) := by omega
    have hidx := fun W => Tryd.strings_Index_one (s.extract start s.size) 47 W
    rw [Lib.extract_to_end, hj1] at hidx
    have IX := Aside0.mk hidx
    have hcells : Lib.byteCells (ob_author.rep (s.data.toList.take start)) ++ Lib.strCells (s.extract start (start + j)) ++ Lib.strCells (⟨#[45]⟩ : ByteArray) = Lib.byteCells (ob_author.rep (s.data.toList.take (start + j + 1))) := by
     have e1 : s.data.toList.take (start + j + 1) = s.data.toList.take start ++ (s.data.toList.drop start).take (j + 1) := by
      rw [Nat.add_assoc, List.take_add]
     rw [e1, ob_author.rep_append, hj3, Lib.strCells_eq, Lib.strCells_eq, ← Lib.byteCells_append, ← Lib.byteCells_append, List.append_assoc]
     congr 2
     congr 1
     rw [Lib.extract_data, Nat.add_sub_cancel_left]
    have CC := Aside0.mk hcells
    have hcnt : (s.data.toList.drop (start + j + 1)).count 47 + (i + 1) = cn := by
     have h1 := HK.out
     rw [List.drop_drop] at hj4
     rw [show start + j + 1 = start + (j + 1) by omega]
     omega
    have NK := Aside0.mk hcnt
    have hrl : (ob_author.rep (s.data.toList.take start)).length ≤ 1000000 := by
     unfold ob_author.rep
     rw [List.length_map, List.length_take]
     omega
    have RL := Aside0.mk hrl
    have HSZ := Aside0.mk (show w.heap.size ≤ wr.heap.size from HB.out.size)
    clear hj1 hj2 hj3 hj4 hlen hidx hcells hcnt hrl
    go_upto_region 15 with (go_at_call 91; go_must (refine (IX.out _).mono ?_; rintro e w2 ⟨rfl, hw⟩; (have hw := hw.symm); subst hw))
    go_upto_region 16 with (go_at_call 92; go_must (refine (Tryd.builder_WriteString w.heap.size w.heap.size _ (s.extract start (start + j)) wr HG.out (by rw [Lib.byteCells_length, ByteArray.size_extract]; have := RL.out; omega) HSZ.out).mono ?_; rintro e w3 ⟨rfl, hI3, hb3, -⟩; have I3 := Aside0.mk hI3; have B3 := Aside0.mk hb3; have S3 := Aside0.mk (Nat.le_trans HSZ.out hb3.size); clear hI3 hb3))
    go_upto_region 17 with (go_at_call 92; go_must (refine (Tryd.builder_WriteString w.heap.size w.heap.size _ (⟨#[45]⟩ : ByteArray) w3 (.inr I3.out) (by rw [List.length_append, Lib.byteCells_length, Lib.strCells_length, ByteArray.size_extract]; have := RL.out; show _ + 1 ≤ _; omega) S3.out).mono ?_; rintro e w4 ⟨rfl, hI4, hb4, -⟩; rw [CC.out] at hI4; have I4 := Aside0.mk hI4; have B4 := Aside0.mk hb4; clear hI4 hb4))
    go_wp2_with fail
    go_roundw
    case rel => exact ⟨i + 1, start + j + 1, rfl, rfl, by omega, NK, ⟨.inr I4.out⟩, ⟨(HB.out.trans B3.out).trans B4.out⟩⟩
    case measure =>
     simp [intOf]
     omega
   ·
    have hcount : (s.data.toList.drop start).count 47 = 0 := by have := HK.out; omega
    have c1 : (0 : Int) ≤ (start : Int) := by omega
    have c2 : (start : Int) ≤ (s.size : Int) := by omega
    have hlen : s.data.toList.length = s.size := by rw [Array.length_toList]; rfl
    have hrl : (ob_author.rep (s.data.toList.take start)).length ≤ 1000000 := by
     unfold ob_author.rep
     rw [List.length_map, List.length_take]
     omega
    have RL := Aside0.mk hrl
    have HSZ := Aside0.mk (show w.heap.size ≤ wr.heap.size from HB.out.size)
    have hcells : Lib.byteCells (ob_author.rep (s.data.toList.take start)) ++ Lib.strCells (s.extract start s.size) = Lib.byteCells (ob_author.rep s.data.toList) := by
     rw [Lib.strCells_eq, ← Lib.byteCells_append, Lib.extract_to_end]
     congr 1
     conv => rhs; rw [← List.take_append_drop start s.data.toList, ob_author.rep_append, ob_author.rep_none _ hcount]
    have CC := Aside0.mk hcells
    clear hcount hrl hcells hlen
    have hni : ¬ (i : Int) < (cn : Int) := by omega
    go_upto_region 29 with (go_at_call 92; go_must (refine (Tryd.builder_WriteString w.heap.size w.heap.size _ (s.extract start s.size) wr HG.out (by rw [Lib.byteCells_length, ByteArray.size_extract]; have := RL.out; omega) HSZ.out).mono ?_; rintro e w3 ⟨rfl, hI3, hb3, -⟩; rw [CC.out] at hI3; have I3 := Aside0.mk hI3; have B3 := Aside0.mk hb3; have S3 := Aside0.mk (Nat.le_trans HSZ.out hb3.size); clear hI3 hb3))
    go_wp2_with (go_at_call 57; go_must (refine (Tryd.builder_String w.heap.size w.heap.size (ob_author.rep s.data.toList) w3 (.inr I3.out) S3.out).mono ?_; rintro e w4 ⟨rfl, -, hb4, -⟩))
    go_ret
    exact ⟨rfl, (HB.out.trans B3.out).trans hb4⟩
theorem ob_author.calls (a0 : ByteArray) (r : Bool) (w : World) (h : ob_author.f a0 = some r) :
 Calls Tryd.prog 37 #[.string a0] w fun e w' => e = .returned (.bool r) ∧ Below w.heap.size w w' := by
 unfold ob_author.f at h
 by_cases hs : a0.size ≤ 1000000
 ·
  rw [if_pos hs] at h
  by_cases hz : a0.size = 0
  · rw [if_pos hz] at h
    obtain rfl := Option.some.inj h
    have he : a0 = ⟨#[]⟩ := by
     apply ByteArray.ext
     exact Array.eq_empty_of_size_eq_zero hz
    subst he
    go_enter Tryd.func37, Tryd.ntmps37
    go_wp2_with fail
    go_ret
    exact ⟨rfl, Below.refl _ _⟩
  ·
   rw [if_neg hz] at h
   have hne : a0.toList.isEmpty = false := by
    rw [Bool.eq_false_iff]
    intro h2
    rw [List.isEmpty_iff] at h2
    have h3 : a0.toList.length = a0.size := by rw [Go.ByteArray.toList_eq, Array.length_toList]; rfl
    rw [h2] at h3
    exact hz h3.symm
   have HH := Aside0.mk h
   have ra := fun W : World => (show Calls Tryd.prog 60 #[.string a0, .string ⟨#[47]⟩, .string ⟨#[45]⟩] W (fun e w' => e = .returned (.string ⟨(ob_author.rep a0.data.toList).toArray⟩) ∧ Below W.heap.size W w') from by
    go_enter Tryd.func60, Tryd.ntmps60
    go_wp2_with (go_at_call 79; refine (ob_author.replace a0 W hs).mono ?_; rintro e w2 ⟨rfl, hb⟩)
    go_ret
    exact ⟨rfl, hb⟩)
   have RA := Aside0.mk ra
   clear ra h
   go_enter Tryd.func37, Tryd.ntmps37
   go_wp2_with (first | (go_at_call 60; go_must (refine (RA.out w).mono ?_; rintro e w2 ⟨rfl, hb2⟩)) | (go_at_call 59; go_must (refine (label_Name.calls _ r _ HH.out).mono ?_; rintro e w3 ⟨rfl, hb3⟩)))
   go_ret
   exact ⟨rfl, hb2.trans (hb3.mono hb2.size)⟩
 · rw [if_neg hs] at h
   cases h


/-! ### sl_HasPrefix: function 71 -/
def sl_HasPrefix.f (a0 : ByteArray) (a1 : ByteArray) : Option (Bool) := if (a0.size : Int) ≥ (a1.size : Int) then (if 0 ≤ (a1.size : Int) then (if (a1.size : Int) ≤ (a0.size : Int) then (some ((a0.extract 0 ((a1.size : Int) : Int).toNat).toList == a1.toList)) else (none)) else (none)) else (some false)
set_option maxHeartbeats 8000000 in
set_option maxRecDepth 100000 in
theorem sl_HasPrefix.calls (a0 : ByteArray) (a1 : ByteArray) (r : Bool) (w : World) (h : sl_HasPrefix.f a0 a1 = some r) :
 Calls Tryd.prog 71 #[.string a0, .string a1] w fun e w' => e = .returned (.bool r) ∧ Drawn0 w w' := by
 have H : (if (a0.size : Int) ≥ (a1.size : Int) then (if 0 ≤ (a1.size : Int) then (if (a1.size : Int) ≤ (a0.size : Int) then (some ((a0.extract 0 ((a1.size : Int) : Int).toNat).toList == a1.toList)) else (none)) else (none)) else (some false)) = some r := h
 clear h
 by_cases c3 : (a0.size : Int) ≥ (a1.size : Int)
 ·
  rw [if_pos c3] at H
  have c3b0 : decide ((a1.size : Int) ≤ (a0.size : Int)) = true := decide_eq_true c3
  have c3b1 : decide (a1.size ≤ a0.size) = true := decide_eq_true (Int.ofNat_le.mp c3)
  clear c3
  by_cases c4 : 0 ≤ (a1.size : Int)
  ·
   rw [if_pos c4] at H
   have c4b0 := eq_true c4
   have c4b1 : decide (0 ≤ (a1.size : Int)) = true := decide_eq_true c4
   clear c4
   by_cases c5 : (a1.size : Int) ≤ (a0.size : Int)
   · rw [if_pos c5] at H
     have c5b0 := eq_true c5
     have c5b1 : decide ((a1.size : Int) ≤ (a0.size : Int)) = true := decide_eq_true c5
     clear c5
     obtain rfl := Option.some.inj H
     go_enter Tryd.func71, Tryd.ntmps71
     go_wp2
     go_ret
     exact ⟨ez_, dz_⟩
   · rw [if_neg c5] at H
     exact absurd H (by simp)
  · rw [if_neg c4] at H
    exact absurd H (by simp)
 · rw [if_neg c3] at H
   have c3b0 : decide ((a1.size : Int) ≤ (a0.size : Int)) = false := decide_eq_false c3
   have c3b1 : decide (a1.size ≤ a0.size) = false := decide_eq_false (fun h => c3 (Int.ofNat_le.mpr h))
   clear c3
   obtain rfl := Option.some.inj H
   go_enter Tryd.func71, Tryd.ntmps71
   go_wp2
   go_ret
   exact ⟨ez_, dz_⟩

/-! ### strings_HasPrefix: function 80 -/
def strings_HasPrefix.f (a0 : ByteArray) (a1 : ByteArray) : Option (Bool) := (sl_HasPrefix.f a0 a1).bind fun t133 => (some t133)
set_option maxHeartbeats 8000000 in
set_option maxRecDepth 100000 in
theorem strings_HasPrefix.calls (a0 : ByteArray) (a1 : ByteArray) (r : Bool) (w : World) (h : strings_HasPrefix.f a0 a1 = some r) :
 Calls Tryd.prog 80 #[.string a0, .string a1] w fun e w' => e = .returned (.bool r) ∧ Drawn0 w w' := by
 have H : ((sl_HasPrefix.f a0 a1).bind fun t133 => (some t133)) = some r := h
 clear h
 replace H := Option.bind_eq_some_iff.mp H
 obtain ⟨t133, A30, H⟩ := H
 try dsimp only at H
 have A3 := Aside0.mk A30
 clear A30
 obtain rfl := Option.some.inj H
 go_enter Tryd.func80, Tryd.ntmps80
 go_wp2_with (first | ((with_reducible refine gate_callee (f := 71) rfl ?_); refine goesM_ (some 7) Tryd.func71 #[.string a0, .string a1] ?_; (with_reducible refine (sl_HasPrefix.calls a0 a1 t133 _ A3.out).mono ?_); rintro e w' ⟨rfl, ⟨nd, rfl⟩⟩; refine ⟨_, rfl, ?_⟩))
 go_ret
 exact ⟨ez_, dz_⟩

/-! ### label_Words: function 61 (given by hand) -/
/-- What label.Words tells, from place pos on: runes, and bytes that are none. -/
def label_Words.go (s : ByteArray) : Nat → Nat → Int → Int → Int × Int
 | 0, _, r, b => (r, b)
 | n + 1, pos, r, b => if pos < s.size then (if ((Utf8.decode s pos).1 : Int) = 65533 ∧ strings_HasPrefix.f (s.extract pos s.size) (⟨#[239, 191, 189]⟩ : ByteArray) = some false then label_Words.go s n (pos + (Utf8.decode s pos).2) r (b + 1) else label_Words.go s n (pos + (Utf8.decode s pos).2) (r + 1) b) else (r, b)
def label_Words.f (a0 : ByteArray) : Option (Int × Int) := if a0.size ≤ 140737488351232 then some (label_Words.go a0 a0.size 0 0 0) else none
theorem label_Words.go_end (s : ByteArray) (n pos : Nat) (r b : Int) (h : ¬ pos < s.size) : label_Words.go s n pos r b = (r, b) := by
 cases n with
 | zero => rfl
 | succ n => simp [label_Words.go, h]
theorem label_Words.width_pos (s : ByteArray) (pos : Nat) (h : pos < s.size) : 1 ≤ (Utf8.decode s pos).2 := by
 by_cases ha : (s[pos]'h).toNat < 128
 · rw [decode_ascii s pos h ha]
   exact Nat.le_refl _
 · exact (decode_high s pos h (by omega)).2
theorem label_Words.hp_some (a b : ByteArray) : ∃ r, strings_HasPrefix.f a b = some r := by
 unfold strings_HasPrefix.f sl_HasPrefix.f
 by_cases h : (a.size : Int) ≥ (b.size : Int)
 · rw [if_pos h, if_pos (by omega), if_pos (by omega)]
   exact ⟨_, rfl⟩
 · rw [if_neg h]
   exact ⟨_, rfl⟩
set_option maxHeartbeats 4000000 in
set_option maxRecDepth 1000000 in
theorem label_Words.calls (a0 : ByteArray) (r1 : Int) (r2 : Int) (w : World) (h : label_Words.f a0 = some (r1, r2)) :
 Calls Tryd.prog 61 #[.string a0] w fun e w' => e = .returned (.tuple #[.int .i64 r1, .int .i64 r2]) ∧ Below w.heap.size w w' := by
 unfold label_Words.f at h
 by_cases hs : a0.size ≤ 140737488351232
 ·
  rw [if_pos hs] at h
  have H := Aside0.mk (Option.some.inj h)
  clear h
  go_enter Tryd.func61, Tryd.ntmps61
  go_wp2_with fail
  go_loopw [4, 5] (fun n b wr => ∃ (pos fuel : Nat) (R B : Int), n = .int .i64 R ∧ b = .int .i64 B ∧ wr.heap[w.heap.size]? = some (.stringIter a0 pos) ∧ Below w.heap.size w wr ∧ Aside0 (label_Words.go a0 fuel pos R B = (r1, r2)) ∧ 0 ≤ R ∧ 0 ≤ B ∧ R + B ≤ pos ∧ pos ≤ a0.size + 4 ∧ a0.size ≤ pos + fuel) (fun _ _ wr => a0.size - wr.iterPos w.heap.size)
  case atStart =>
   exact ⟨0, a0.size, 0, 0, rfl, rfl, World.iter_heap w a0 0, (Below.refl _ w).alloc (Nat.le_refl _) _, H, by omega, by omega, by omega, by omega, by omega⟩
  case round =>
   obtain ⟨pos, fuel, R, B, rfl, rfl, hit, hbw, HG, hR, hB, hRB, hp4, hfu⟩ := hrel
   clear H
   by_cases hp : pos < a0.size
   ·
    have hnx : ∀ ty, (Instr.next (.pointer (some ⟨w.heap.size, 0, none⟩)) true ty).run Tryd.prog wr = _ := fun ty => Lib.run_next_any_at wr w.heap.size a0 pos ty hit hp
    have hwd := label_Words.width_pos a0 pos hp
    have hw4 : (Utf8.decode a0 pos).2 ≤ 4 := by
     simp only [Utf8.decode]
     repeat' split
     all_goals simp
    have hit2 := Lib.iterAt_heap wr w.heap.size a0 pos (pos + (Utf8.decode a0 pos).2) hit
    have hbw2 := Lib.below_iterAt hbw (k := w.heap.size) (Nat.le_refl _) a0 (pos + (Utf8.decode a0 pos).2)
    obtain ⟨f, rfl⟩ : ∃ f, fuel = f + 1 := ⟨fuel - 1, by omega⟩
    have HG' := HG.out
    simp only [label_Words.go, if_pos hp] at HG'
    obtain ⟨q, hq⟩ := label_Words.hp_some (a0.extract pos a0.size) (⟨#[239, 191, 189]⟩ : ByteArray)
    rw [hq] at HG'
    have Q := Aside0.mk hq
    clear hq HG
    have hle : (pos : Int) ≤ (a0.size : Int) := by omega
    by_cases hc : ((Utf8.decode a0 pos).1 : Int) = 65533
    ·
     have hcb : (((Utf8.decode a0 pos).1 : Int) == 65533) = true := beq_iff_eq.mpr hc
     cases q with
     | false =>
      rw [if_pos ⟨hc, rfl⟩] at HG'
      have HG := Aside0.mk HG'
      clear HG' hc
      go_wp2_with (go_at_call 80; refine (strings_HasPrefix.calls _ _ false _ Q.out).mono ?_; rintro e w' ⟨rfl, ⟨nd, rfl⟩⟩)
      go_roundw
      case rel => exact ⟨pos + (Utf8.decode a0 pos).2, f, R, B + 1, rfl, rfl, hit2, pw_below_drewN hbw2 _, HG, by omega, by omega, by omega, by omega, by omega⟩
      case measure =>
       simp only [World.iterPos, hit]
       rw [show ((wr.iterAt w.heap.size a0 (pos + (Utf8.decode a0 pos).2)).drewN nd).heap[w.heap.size]? = _ from hit2]
       simp only
       omega
     | true =>
      rw [if_neg (by simp)] at HG'
      have HG := Aside0.mk HG'
      clear HG' hc
      go_wp2_with (go_at_call 80; refine (strings_HasPrefix.calls _ _ true _ Q.out).mono ?_; rintro e w' ⟨rfl, ⟨nd, rfl⟩⟩)
      go_roundw
      case rel => exact ⟨pos + (Utf8.decode a0 pos).2, f, R + 1, B, rfl, rfl, hit2, pw_below_drewN hbw2 _, HG, by omega, by omega, by omega, by omega, by omega⟩
      case measure =>
       simp only [World.iterPos, hit]
       rw [show ((wr.iterAt w.heap.size a0 (pos + (Utf8.decode a0 pos).2)).drewN nd).heap[w.heap.size]? = _ from hit2]
       simp only
       omega
    · have hcb : (((Utf8.decode a0 pos).1 : Int) == 65533) = false := beq_eq_false_iff_ne.mpr hc
      rw [if_neg (by simp [hc])] at HG'
      have HG := Aside0.mk HG'
      clear HG' hc
      go_wp2_with fail
      go_roundw
      case rel => exact ⟨pos + (Utf8.decode a0 pos).2, f, R + 1, B, rfl, rfl, hit2, hbw2, HG, by omega, by omega, by omega, by omega, by omega⟩
      case measure =>
       simp only [World.iterPos, hit, hit2]
       omega
   · have hnx : ∀ ty, (Instr.next (.pointer (some ⟨w.heap.size, 0, none⟩)) true ty).run Tryd.prog wr = _ := fun ty => Lib.run_next_end_at wr w.heap.size a0 pos ty hit hp
     go_wp2_with fail
     go_ret2
     have HG' := HG.out
     rw [label_Words.go_end a0 fuel pos R B hp] at HG'
     simp only [Prod.mk.injEq] at HG'
     obtain ⟨rfl, rfl⟩ := HG'
     exact ⟨rfl, hbw⟩
 · rw [if_neg hs] at h
   cases h


/-! ### ob_text: function 38 -/
def ob_text.f (a0 : ByteArray) : Option (Bool) := (label_Words.f a0).bind fun bt134 => (if (a0.size : Int) ≤ 4096 then (some (bt134.2 == 0)) else (some false))
set_option maxHeartbeats 8000000 in
set_option maxRecDepth 100000 in
theorem ob_text.calls (a0 : ByteArray) (r : Bool) (w : World) (h : ob_text.f a0 = some r) :
 Calls Tryd.prog 38 #[.string a0] w fun e w' => e = .returned (.bool r) ∧ Below w.heap.size w w' := by
 have HB := Aside0.mk (Below.refl w.heap.size w)
 have H : ((label_Words.f a0).bind fun bt134 => (if (a0.size : Int) ≤ 4096 then (some (bt134.2 == 0)) else (some false))) = some r := h
 clear h
 replace H := Option.bind_eq_some_iff.mp H
 obtain ⟨⟨t134, t135⟩, A20, H⟩ := H
 try dsimp only at H
 have A2 := Aside0.mk A20
 clear A20
 by_cases c3 : (a0.size : Int) ≤ 4096
 · rw [if_pos c3] at H
   have c3b0 : decide ((a0.size : Int) ≤ 4096) = true := decide_eq_true c3
   have c3b1 : decide (a0.size ≤ 4096) = true := decide_eq_true (by omega)
   clear c3
   obtain rfl := Option.some.inj H
   go_enter Tryd.func38, Tryd.ntmps38
   go_wp2_with (first | ((with_reducible refine gate_callee (f := 61) rfl ?_); refine goesM_ (some 7) Tryd.func61 #[.string a0] ?_; (with_reducible refine (label_Words.calls a0 t134 t135 _ A2.out).mono ?_); rintro e w4 ⟨rfl, hb⟩; refine ⟨_, rfl, ?_⟩; have n0_ := Aside0.mk (below_step bz_ hb); clear HB; have HB := n0_; clear n0_; (try clear hb); (try clear hb2); (try clear hk); (try clear hi)))
   go_ret
   exact ⟨xz_, bz_⟩
 · rw [if_neg c3] at H
   have c3b0 : decide ((a0.size : Int) ≤ 4096) = false := decide_eq_false c3
   have c3b1 : decide (a0.size ≤ 4096) = false := decide_eq_false (by omega)
   clear c3
   obtain rfl := Option.some.inj H
   go_enter Tryd.func38, Tryd.ntmps38
   go_wp2_with (first | ((with_reducible refine gate_callee (f := 61) rfl ?_); refine goesM_ (some 7) Tryd.func61 #[.string a0] ?_; (with_reducible refine (label_Words.calls a0 t134 t135 _ A2.out).mono ?_); rintro e w5 ⟨rfl, hb⟩; refine ⟨_, rfl, ?_⟩; have n0_ := Aside0.mk (below_step bz_ hb); clear HB; have HB := n0_; clear n0_; (try clear hb); (try clear hb2); (try clear hk); (try clear hi)))
   go_ret
   exact ⟨xz_, bz_⟩

/-! ### sCo: function 39 -/
def sCo.f (k : Nat) (l0 : List ByteArray) (a1 : ByteArray) : Option (Bool) := (sIx.f k l0 a1).bind fun t136 => (some (decide (t136 ≥ 0)))
theorem sCo.mono : ∀ a0 a1 k, LeO (sCo.f k a0 a1) (sCo.f (k + 1) a0 a1) := by
 intro a0 a1 k
 unfold sCo.f
 repeat' with_reducible first | exact sIx.mono _ _ _ | exact LeO.refl _ | exact LeO.none _ | refine LeO.ite ?_ ?_ | refine LeO.bind ?_ (fun _ => ?_)
set_option maxHeartbeats 8000000 in
set_option maxRecDepth 100000 in
theorem sCo.calls (k : Nat) (A0 : Option Addr) (c0 : Nat) (l0 : List ByteArray) (a1 : ByteArray) (r : Bool) (w : World) (hr0 : Kd.C Kd.string w A0 l0.length l0) (hc0 : l0.length ≤ c0) (h : sCo.f k l0 a1 = some r) :
 Calls Tryd.prog 39 #[.slice A0 l0.length c0, .string a1] w fun e w' => e = .returned (.bool r) ∧ Drawn0 w w' := by
 have HR0 := Aside0.mk hr0
 have HC0 := Aside0.mk hc0
 clear hr0 hc0
 have H : ((sIx.f k l0 a1).bind fun t136 => (some (decide (t136 ≥ 0)))) = some r := h
 clear h
 replace H := Option.bind_eq_some_iff.mp H
 obtain ⟨t136, A30, H⟩ := H
 try dsimp only at H
 have A3 := Aside0.mk A30
 clear A30
 obtain rfl := Option.some.inj H
 go_enter Tryd.func39, Tryd.ntmps39
 go_wp2_with (first | ((with_reducible refine gate_callee (f := 41) rfl ?_); refine goesM_ (some 7) Tryd.func41 #[.slice A0 l0.length c0, .string a1] ?_; (with_reducible refine (sIx.calls k _ _ l0 a1 t136 _ ?side1 ?side2 A3.out).mono ?_); (case side1 => repeat (first | exact HR0.out | (with_reducible refine Kd.C_alloc ?_ _) | (with_reducible refine Kd.C_drewN ?_ _) | (with_reducible refine Kd.C_drew ?_))); (case side2 => exact HC0.out); rintro e w' ⟨rfl, ⟨nd, rfl⟩⟩; refine ⟨_, rfl, ?_⟩))
 go_ret
 exact ⟨ez_, dz_⟩

end Go.Proofs.YtnapcfpecpgdbaaDoor.M
