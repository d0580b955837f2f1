/- The program's functions as plain functions, and that each call comes to what these tell; written by a program of this session, some contracts by hand. Conditions: none. -/
import Derived.Test.YtnapcfpecpgdbaaDoorMx0
import Derived.Test.YtnapcfpecpgdbaaDoorMx30
namespace Go.Proofs.YtnapcfpecpgdbaaDoor.M
open Go.RowKit Go.Proofs.YtnapcfpecpgdbaaDoorW.PrintWords Go.Proofs.YtnapcfpecpgdbaaDoorW.PrintLast Go.Proofs.YtnapcfpecpgdbaaDoorW.PrintMore
attribute [local go_sem] max2_int min2_int max_two min_two max_three min_three max_four min_four   -- for this text's walks alone
set_option linter.unusedVariables false
set_option linter.unusedSimpArgs false

/-! ### pollardref07_PutCommit: function 11 -/
def pollardref07_PutCommit.l0 : Nat → ByteArray → Int → ByteArray → List ByteArray → ByteArray → Int → ByteArray → Option (ByteArray)
 | 0, _, _, _, _, _, _, _ => none
 | k + 1, x3, x4, x430000, x430001, x430002, x430003, x430004 => if x4 < (x430001.length : Int) then (if 0 ≤ x4 then ((pollardref02_Hex.f k (rdOf ByteArray.empty x430001 x4)).bind fun t432 => (if 7 + t432.size ≤ 9223372036854775807 then (if (7 + t432.size) + 1 ≤ 9223372036854775807 then (if x3.size + ((7 + t432.size) + 1) ≤ 9223372036854775807 then (pollardref07_PutCommit.l0 k (x3 ++ (((⟨#[112, 97, 114, 101, 110, 116, 32]⟩ : ByteArray) ++ t432) ++ (⟨#[10]⟩ : ByteArray))) (wrap64 (x4 + 1)) x430000 x430001 x430002 x430003 x430004) else (none)) else (none)) else (none))) else (none)) else (if x3.size + 7 ≤ 9223372036854775807 then (if (x3 ++ (⟨#[97, 117, 116, 104, 111, 114, 32]⟩ : ByteArray)).size + x430002.size ≤ 9223372036854775807 then (if ((x3 ++ (⟨#[97, 117, 116, 104, 111, 114, 32]⟩ : ByteArray)) ++ x430002).size + 6 ≤ 9223372036854775807 then ((pollardref02_Dec.f k x430003).bind fun t433 => (if (((x3 ++ (⟨#[97, 117, 116, 104, 111, 114, 32]⟩ : ByteArray)) ++ x430002) ++ (⟨#[10, 116, 105, 109, 101, 32]⟩ : ByteArray)).size + t433.size ≤ 9223372036854775807 then (if ((((x3 ++ (⟨#[97, 117, 116, 104, 111, 114, 32]⟩ : ByteArray)) ++ x430002) ++ (⟨#[10, 116, 105, 109, 101, 32]⟩ : ByteArray)) ++ t433).size + 2 ≤ 9223372036854775807 then (if (((((x3 ++ (⟨#[97, 117, 116, 104, 111, 114, 32]⟩ : ByteArray)) ++ x430002) ++ (⟨#[10, 116, 105, 109, 101, 32]⟩ : ByteArray)) ++ t433) ++ (⟨#[10, 10]⟩ : ByteArray)).size + x430004.size ≤ 9223372036854775807 then (some ((((((x3 ++ (⟨#[97, 117, 116, 104, 111, 114, 32]⟩ : ByteArray)) ++ x430002) ++ (⟨#[10, 116, 105, 109, 101, 32]⟩ : ByteArray)) ++ t433) ++ (⟨#[10, 10]⟩ : ByteArray)) ++ x430004)) else (none)) else (none)) else (none))) else (none)) else (none)) else (none))
def pollardref07_PutCommit.f (k : Nat) (a0_0 : ByteArray) (l0_1 : List ByteArray) (a0_2 : ByteArray) (a0_3 : Int) (a0_4 : ByteArray) : Option (ByteArray) := (pollardref02_Hex.f k a0_0).bind fun t430 => (if 5 + t430.size ≤ 9223372036854775807 then (if (5 + t430.size) + 1 ≤ 9223372036854775807 then (pollardref07_PutCommit.l0 k (((⟨#[116, 114, 101, 101, 32]⟩ : ByteArray) ++ t430) ++ (⟨#[10]⟩ : ByteArray)) 0 a0_0 l0_1 a0_2 a0_3 a0_4) else (none)) else (none))
theorem pollardref07_PutCommit.mono_l : ∀ k, (∀ y0 y1 y2 y3 y4 y5 y6, LeO (pollardref07_PutCommit.l0 k y0 y1 y2 y3 y4 y5 y6) (pollardref07_PutCommit.l0 (k + 1) y0 y1 y2 y3 y4 y5 y6))
 | 0 => fun _ _ _ _ _ _ _ r h => by simp [pollardref07_PutCommit.l0] at h
 | k + 1 => by
  have ih0 := pollardref07_PutCommit.mono_l k
  ·
   intro y0 y1 y2 y3 y4 y5 y6
   unfold pollardref07_PutCommit.l0
   repeat' first
   | (with_reducible exact ih0 _ _ _ _ _ _ _)
   | (with_reducible exact pollardref02_Dec.mono _ _)
   | (with_reducible exact pollardref02_Hex.mono _ _)
   | (with_reducible exact LeO.refl _)
   | (with_reducible exact LeO.none _)
   | (with_reducible refine LeO.ite ?_ ?_)
   | (with_reducible refine LeO.bind ?_ (fun _ => ?_))
   | exact ih0 _ _ _ _ _ _ _
   | exact pollardref02_Dec.mono _ _
   | exact pollardref02_Hex.mono _ _
   | exact LeO.none _
   | refine LeO.ite ?_ ?_
   | refine LeO.bind ?_ (fun _ => ?_)
theorem pollardref07_PutCommit.mono : ∀ a0 a1 a2 a3 a4 k, LeO (pollardref07_PutCommit.f k a0 a1 a2 a3 a4) (pollardref07_PutCommit.f (k + 1) a0 a1 a2 a3 a4) := by
 intro a0 a1 a2 a3 a4 k
 have ih0 := pollardref07_PutCommit.mono_l k
 unfold pollardref07_PutCommit.f
 repeat' first
  | (with_reducible exact ih0 _ _ _ _ _ _ _)
  | (with_reducible exact pollardref02_Dec.mono _ _)
  | (with_reducible exact pollardref02_Hex.mono _ _)
  | (with_reducible exact LeO.refl _)
  | (with_reducible exact LeO.none _)
  | (with_reducible refine LeO.ite ?_ ?_)
  | (with_reducible refine LeO.bind ?_ (fun _ => ?_))
  | exact ih0 _ _ _ _ _ _ _
  | exact pollardref02_Dec.mono _ _
  | exact pollardref02_Hex.mono _ _
  | exact LeO.none _
  | refine LeO.ite ?_ ?_
  | refine LeO.bind ?_ (fun _ => ?_)
def pollardref07_PutCommit.T6 : Bool × List (List Nat × List Nat) := (true, [([], []), ([0], [0]), ([], []), ([2], [2]), ([1, 3], [1, 3]), ([4], [4]), ([], []), ([6], [6]), ([7], [7]), ([5, 8], [5, 8]), ([9], [9]), ([], []), ([11], [11]), ([10, 12], [10, 12]), ([13, 8, 0, 1, 2, 3, 4, 5, 6, 7, 8, 9, 10, 11, 12, 13], [13])])
def pollardref07_PutCommit.B6 : List Nat := [0, 1, 0, 4, 15, 31, 0, 64, 192, 511, 1023, 0, 2048, 8191, 16383]
theorem pollardref07_PutCommit.tab6 : rtab .any (opsOf Tryd.f11 6) = pollardref07_PutCommit.T6 := by kernel_rfl
theorem pollardref07_PutCommit.bits6 : waitsOk pollardref07_PutCommit.T6.2 pollardref07_PutCommit.B6 = true := by kernel_rfl
set_option maxHeartbeats 8000000 in
set_option maxRecDepth 100000 in
theorem pollardref07_PutCommit.calls (k : Nat) (a0_0 : ByteArray) (A0_1 : Option Addr) (c0_1 : Nat) (l0_1 : List ByteArray) (a0_2 : ByteArray) (a0_3 : Int) (a0_4 : ByteArray) (r : ByteArray) (w : World) (hr0_1 : Kd.C Kd.string w A0_1 l0_1.length l0_1) (hc0_1 : l0_1.length ≤ c0_1) (h : pollardref07_PutCommit.f k a0_0 l0_1 a0_2 a0_3 a0_4 = some r) :
 Calls Tryd.prog 11 #[.agg #[.string a0_0, .slice A0_1 l0_1.length c0_1, .string a0_2, .int .u64 a0_3, .string a0_4]] w fun e w' => e = .returned (.string r) ∧ Below w.heap.size w w' := by
 have hu30 := Tryd.underlying30
 have HR0_1 := Aside0.mk hr0_1
 have HC0_1 := Aside0.mk hc0_1
 clear hr0_1 hc0_1
 have HB := Aside0.mk (Below.refl w.heap.size w)
 have H : ((pollardref02_Hex.f k a0_0).bind fun t430 => (if 5 + t430.size ≤ 9223372036854775807 then (if (5 + t430.size) + 1 ≤ 9223372036854775807 then (pollardref07_PutCommit.l0 k (((⟨#[116, 114, 101, 101, 32]⟩ : ByteArray) ++ t430) ++ (⟨#[10]⟩ : ByteArray)) 0 a0_0 l0_1 a0_2 a0_3 a0_4) else (none)) else (none))) = some r := h
 clear h
 replace H := Option.bind_eq_some_iff.mp H
 obtain ⟨t430, A20, H⟩ := H
 replace H : (if 5 + t430.size ≤ 9223372036854775807 then (if (5 + t430.size) + 1 ≤ 9223372036854775807 then (pollardref07_PutCommit.l0 k (((⟨#[116, 114, 101, 101, 32]⟩ : ByteArray) ++ t430) ++ (⟨#[10]⟩ : ByteArray)) 0 a0_0 l0_1 a0_2 a0_3 a0_4) else (none)) else (none)) = some r := H
 have A2 := Aside0.mk A20
 clear A20
 by_cases c3 : 5 + t430.size ≤ 9223372036854775807
 ·
  rw [if_pos c3] at H
  have c3b0 := eq_true c3
  have c3b1 : decide (5 + t430.size ≤ 9223372036854775807) = true := decide_eq_true c3
  try have c3b2 : (9223372036854775807 < 5 + t430.size) = False := eq_false (Nat.not_lt.2 c3)
  by_cases c4 : (5 + t430.size) + 1 ≤ 9223372036854775807
  ·
   rw [if_pos c4] at H
   have c4b0 := eq_true c4
   have c4b1 : decide ((5 + t430.size) + 1 ≤ 9223372036854775807) = true := decide_eq_true c4
   try have c4b2 : (9223372036854775807 < (5 + t430.size) + 1) = False := eq_false (Nat.not_lt.2 c4)
   have H' := Aside0.mk H
   clear H
   go_enter Tryd.func11, Tryd.ntmps11
   go_wp2_with (first | ((with_reducible refine gate_dst (N := 1) rfl ?_); refine box_event ?hg (N := 1) ?hd (cs := #[.string a0_0, .slice A0_1 l0_1.length c0_1, .string a0_2, .int .u64 a0_3, .string a0_4]) (t := 30) ?hr ?_; (case hd => rfl); (case hg => rfl); (case hr => first | (go_simp; done) | (go_simp; rfl) | (go_simp; simp only [show ∀ x_ : Int, IntKind.u8.wrap x_ = x_ % 256 from fun _ => rfl, Int.add_emod_emod, Int.emod_add_emod, Int.emod_emod]; done)); intro gb429 hg w5 hbox hb; have n0_ := Aside0.mk (below_step (by repeat (first | (with_reducible first | exact HB.out | apply below_alloc | apply pw_below_drewN | apply below_drew1) | exact HB.out)) hb); have n1_ := Aside0.mk (hbox); have n2_ := Aside0.mk ((by rw [hg]; exact (below_size (by repeat (first | (with_reducible first | exact HB.out | apply below_alloc | apply pw_below_drewN | apply below_drew1) | exact HB.out))) : w.heap.size ≤ gb429)); have n3_ := Aside0.mk ((by rw [hg]; exact (below_size (by repeat (first | (with_reducible first | exact HB.out | apply below_alloc | apply pw_below_drewN | apply below_drew1) | exact HB.out))) : w.heap.size ≤ gb429)); clear HB; have HB := n0_; have BK429 := n1_; have GW429 := n2_; have GE429 := n3_; clear n0_ n1_ n2_ n3_; clear hb hbox hg; have hcz6_0 : w5.cell? ⟨gb429, 0, none⟩ = some (.string a0_0) := (blk_cell BK429.out 0).trans rfl; have hcz6_1 : w5.cell? ⟨gb429, 1, none⟩ = some (.slice A0_1 l0_1.length c0_1) := (blk_cell BK429.out 1).trans rfl; have hcz6_2 : w5.cell? ⟨gb429, 2, none⟩ = some (.string a0_2) := (blk_cell BK429.out 2).trans rfl; have hcz6_3 : w5.cell? ⟨gb429, 3, none⟩ = some (.int .u64 a0_3) := (blk_cell BK429.out 3).trans rfl; have hcz6_4 : w5.cell? ⟨gb429, 4, none⟩ = some (.string a0_4) := (blk_cell BK429.out 4).trans rfl; have hfz6_0 := blk_frozen BK429.out 0; have hfz6_1 := blk_frozen BK429.out 1; have hfz6_2 := blk_frozen BK429.out 2; have hfz6_3 := blk_frozen BK429.out 3; have hfz6_4 := blk_frozen BK429.out 4) | ((with_reducible refine gate_callee (f := 29) rfl ?_); refine goesL_ (some 7) rfl rfl Tryd.func29 (by kernel_rfl) rfl #[.string a0_0] rfl (by (try simp only [List.map_toArray, List.map_cons, List.map_nil]); first | done | rfl | (simp only [List.length_drop, List.length_take]; rfl)) ?_; (with_reducible refine (pollardref02_Hex.calls k a0_0 t430 _ A2.out).mono ?_); rintro e w7 ⟨rfl, hb⟩; refine ⟨_, rfl, ?_⟩; have n0_ := Aside0.mk (blk_below (g := gb429) (o := .cells #[.string a0_0, .slice A0_1 l0_1.length c0_1, .string a0_2, .int .u64 a0_3, .string a0_4] 30 (0, 0)) (by (with_reducible repeat (first | refine blk_drewN ?_ _ | refine blk_drew ?_ | refine blk_alloc ?_ _)); exact BK429.out) hb); have n1_ := Aside0.mk (below_step (by repeat (first | (with_reducible first | exact HB.out | apply below_alloc | apply pw_below_drewN | apply below_drew1 | refine below_set ?_ GE429.out) | exact HB.out)) hb); clear BK429; clear HB; have BK429 := n0_; have HB := n1_; clear n0_ n1_; (try clear hb); (try clear hb2); (try clear hk); (try clear hi)))
   go_loopg [3, 4] k (fun kq v3 v4 w' => ∃ (x3_1 : ByteArray) (x4_1 : Int), v3 = .string x3_1 ∧ v4 = .int .i64 x4_1 ∧ Aside0 (pollardref07_PutCommit.l0 kq x3_1 x4_1 a0_0 l0_1 a0_2 a0_3 a0_4 = some r) ∧ Aside0 (kq ≤ k) ∧ Aside0 (w'.heap[gb429]? = some (.cells #[.string a0_0, (.slice A0_1 l0_1.length c0_1), .string a0_2, .int .u64 a0_3, .string a0_4] 30 (0, 0))) ∧ Aside0 (Below w.heap.size w w'))
   case atStart => exact ⟨(((⟨#[116, 114, 101, 101, 32]⟩ : ByteArray) ++ t430) ++ (⟨#[10]⟩ : ByteArray)), (0), (by first | rfl | (simp; done) | (simp [*]; done)), (by first | rfl | (simp; done) | (simp [*]; done)), H', ⟨Nat.le_refl _⟩, ⟨by (with_reducible repeat (first | refine blk_drewN ?_ _ | refine blk_drew ?_ | refine blk_alloc ?_ _)); exact BK429.out⟩, ⟨by repeat (first | (with_reducible first | exact HB.out | apply below_alloc | apply pw_below_drewN | apply below_drew1 | refine below_set ?_ GE429.out) | exact HB.out)⟩⟩
   case round =>
    clear H'
    try clear c1
    try clear c2
    try clear p2
    try clear c3
    try clear c3b0
    try clear c3b1
    try clear c3b2
    try clear c4
    try clear c4b0
    try clear c4b1
    try clear c4b2
    try clear hcz6_0
    try clear hcz6_1
    try clear hcz6_2
    try clear hcz6_3
    try clear hcz6_4
    try clear hfz6_0
    try clear hfz6_1
    try clear hfz6_2
    try clear hfz6_3
    try clear hfz6_4
    obtain ⟨x3_1, x4_1, rfl, rfl, HA, HK1, BK429, HB⟩ := hrel
    cases gk with
    | zero => exact absurd HA.out (by simp [pollardref07_PutCommit.l0])
    | succ k1 =>
     have H := HA.out
     clear HA
     simp only [pollardref07_PutCommit.l0] at H
     by_cases c8 : x4_1 < (l0_1.length : Int)
     ·
      rw [if_pos c8] at H
      have c8b0 : decide (x4_1 < (l0_1.length : Int)) = true := decide_eq_true c8
      clear c8
      by_cases c9 : 0 ≤ x4_1
      ·
       rw [if_pos c9] at H
       have c9b0 : decide (0 ≤ x4_1) = true := decide_eq_true c9
       clear c9
       replace H := Option.bind_eq_some_iff.mp H
       obtain ⟨t432, A100, H⟩ := H
       replace H : (if 7 + t432.size ≤ 9223372036854775807 then (if (7 + t432.size) + 1 ≤ 9223372036854775807 then (if x3_1.size + ((7 + t432.size) + 1) ≤ 9223372036854775807 then (pollardref07_PutCommit.l0 k1 (x3_1 ++ (((⟨#[112, 97, 114, 101, 110, 116, 32]⟩ : ByteArray) ++ t432) ++ (⟨#[10]⟩ : ByteArray))) (wrap64 (x4_1 + 1)) a0_0 l0_1 a0_2 a0_3 a0_4) else (none)) else (none)) else (none)) = some r := H
       have A10 := Aside0.mk A100
       clear A100
       by_cases c11 : 7 + t432.size ≤ 9223372036854775807
       ·
        rw [if_pos c11] at H
        have c11b0 := eq_true c11
        have c11b1 : decide (7 + t432.size ≤ 9223372036854775807) = true := decide_eq_true c11
        try have c11b2 : (9223372036854775807 < 7 + t432.size) = False := eq_false (Nat.not_lt.2 c11)
        by_cases c12 : (7 + t432.size) + 1 ≤ 9223372036854775807
        ·
         rw [if_pos c12] at H
         have c12b0 := eq_true c12
         have c12b1 : decide ((7 + t432.size) + 1 ≤ 9223372036854775807) = true := decide_eq_true c12
         try have c12b2 : (9223372036854775807 < (7 + t432.size) + 1) = False := eq_false (Nat.not_lt.2 c12)
         by_cases c13 : x3_1.size + ((7 + t432.size) + 1) ≤ 9223372036854775807
         ·
          rw [if_pos c13] at H
          have c13b0 := eq_true c13
          have c13b1 : decide (x3_1.size + ((7 + t432.size) + 1) ≤ 9223372036854775807) = true := decide_eq_true c13
          try have c13b2 : (9223372036854775807 < x3_1.size + ((7 + t432.size) + 1)) = False := eq_false (Nat.not_lt.2 c13)
          have H' := Aside0.mk H
          clear H
          have hcz14_0 : wr.cell? ⟨gb429, 0, none⟩ = some (.string a0_0) := (blk_cell BK429.out 0).trans rfl
          have hcz14_1 : wr.cell? ⟨gb429, 1, none⟩ = some (.slice A0_1 l0_1.length c0_1) := (blk_cell BK429.out 1).trans rfl
          have hcz14_2 : wr.cell? ⟨gb429, 2, none⟩ = some (.string a0_2) := (blk_cell BK429.out 2).trans rfl
          have hcz14_3 : wr.cell? ⟨gb429, 3, none⟩ = some (.int .u64 a0_3) := (blk_cell BK429.out 3).trans rfl
          have hcz14_4 : wr.cell? ⟨gb429, 4, none⟩ = some (.string a0_4) := (blk_cell BK429.out 4).trans rfl
          have hfz14_0 := blk_frozen BK429.out 0
          have hfz14_1 := blk_frozen BK429.out 1
          have hfz14_2 := blk_frozen BK429.out 2
          have hfz14_3 := blk_frozen BK429.out 3
          have hfz14_4 := blk_frozen BK429.out 4
          have p431 : 0 ≤ (x4_1 : Int) := of_decide_eq_true (by first | (with_reducible assumption) | assumption)
          have q431 : x4_1 < (l0_1.length : Int) := of_decide_eq_true (by first | (with_reducible assumption) | assumption)
          obtain ⟨ad431, e431, hx431_0⟩ := Kd.at_string HR0_1.out x4_1 p431 q431
          cases e431
          replace hx431_0 := (HB.out.cell (World.block_lt_of_cell? w _ hx431_0)).trans hx431_0
          replace p431 := eq_true p431
          replace q431 := eq_true q431
          go_wp2_with (first | ((with_reducible refine gate_callee (f := 29) rfl ?_); refine goesL_ (some 23) rfl rfl Tryd.func29 (by kernel_rfl) rfl #[.string (rdOf ByteArray.empty l0_1 x4_1)] rfl (by (try simp only [List.map_toArray, List.map_cons, List.map_nil]); first | done | rfl | (simp only [List.length_drop, List.length_take]; rfl)) ?_; (with_reducible refine (pollardref02_Hex.calls k1 (rdOf ByteArray.empty l0_1 x4_1) t432 _ A10.out).mono ?_); rintro e w15 ⟨rfl, hb⟩; refine ⟨_, rfl, ?_⟩; have n0_ := Aside0.mk (blk_below (g := gb429) (o := .cells #[.string a0_0, .slice (some ad431) l0_1.length c0_1, .string a0_2, .int .u64 a0_3, .string a0_4] 30 (0, 0)) (by (with_reducible repeat (first | refine blk_drewN ?_ _ | refine blk_drew ?_ | refine blk_alloc ?_ _)); exact BK429.out) hb); have n1_ := Aside0.mk (below_step (by repeat (first | (with_reducible first | exact HB.out | apply below_alloc | apply pw_below_drewN | apply below_drew1 | refine below_set ?_ GE429.out) | exact HB.out)) hb); clear BK429; clear HB; have BK429 := n0_; have HB := n1_; clear n0_ n1_; (try clear hb); (try clear hb2); (try clear hk); (try clear hi)))
          go_roundg k1
          case measure => have := HK1.out; omega
          case rel => exact ⟨(x3_1 ++ (((⟨#[112, 97, 114, 101, 110, 116, 32]⟩ : ByteArray) ++ t432) ++ (⟨#[10]⟩ : ByteArray))), (wrap64 (x4_1 + 1)), (by first | rfl | (simp; done) | (simp [*]; done)), (by first | rfl | (simp; done) | (simp [*]; done)), H', ⟨by have := HK1.out; omega⟩, ⟨by (with_reducible repeat (first | refine blk_drewN ?_ _ | refine blk_drew ?_ | refine blk_alloc ?_ _)); exact BK429.out⟩, ⟨by repeat (first | (with_reducible first | exact HB.out | apply below_alloc | apply pw_below_drewN | apply below_drew1 | refine below_set ?_ GE429.out) | exact HB.out)⟩⟩
         · rw [if_neg c13] at H
           exact absurd H (by simp)
        · rw [if_neg c12] at H
          exact absurd H (by simp)
       · rw [if_neg c11] at H
         exact absurd H (by simp)
      · rw [if_neg c9] at H
        exact absurd H (by simp)
     ·
      rw [if_neg c8] at H
      have c8b0 : decide (x4_1 < (l0_1.length : Int)) = false := decide_eq_false c8
      clear c8
      by_cases c16 : x3_1.size + 7 ≤ 9223372036854775807
      ·
       rw [if_pos c16] at H
       have c16b0 := eq_true c16
       have c16b1 : decide (x3_1.size + 7 ≤ 9223372036854775807) = true := decide_eq_true c16
       try have c16b2 : (9223372036854775807 < x3_1.size + 7) = False := eq_false (Nat.not_lt.2 c16)
       by_cases c17 : (x3_1 ++ (⟨#[97, 117, 116, 104, 111, 114, 32]⟩ : ByteArray)).size + a0_2.size ≤ 9223372036854775807
       ·
        rw [if_pos c17] at H
        have c17b0 := eq_true c17
        have c17b1 : decide ((x3_1 ++ (⟨#[97, 117, 116, 104, 111, 114, 32]⟩ : ByteArray)).size + a0_2.size ≤ 9223372036854775807) = true := decide_eq_true c17
        try have c17b2 : (9223372036854775807 < (x3_1 ++ (⟨#[97, 117, 116, 104, 111, 114, 32]⟩ : ByteArray)).size + a0_2.size) = False := eq_false (Nat.not_lt.2 c17)
        try have c17b3 : (9223372036854775807 < x3_1.size + 7 + a0_2.size) = False := eq_false (by have h_ := c17; simp only [ByteArray.size_append] at h_; first | exact Nat.not_lt.2 h_ | exact Nat.not_lt.2 (by simpa using h_))
        by_cases c18 : ((x3_1 ++ (⟨#[97, 117, 116, 104, 111, 114, 32]⟩ : ByteArray)) ++ a0_2).size + 6 ≤ 9223372036854775807
        ·
         rw [if_pos c18] at H
         have c18b0 := eq_true c18
         have c18b1 : decide (((x3_1 ++ (⟨#[97, 117, 116, 104, 111, 114, 32]⟩ : ByteArray)) ++ a0_2).size + 6 ≤ 9223372036854775807) = true := decide_eq_true c18
         try have c18b2 : (9223372036854775807 < ((x3_1 ++ (⟨#[97, 117, 116, 104, 111, 114, 32]⟩ : ByteArray)) ++ a0_2).size + 6) = False := eq_false (Nat.not_lt.2 c18)
         try have c18b3 : (9223372036854775807 < x3_1.size + 7 + a0_2.size + 6) = False := eq_false (by have h_ := c18; simp only [ByteArray.size_append] at h_; first | exact Nat.not_lt.2 h_ | exact Nat.not_lt.2 (by simpa using h_))
         replace H := Option.bind_eq_some_iff.mp H
         obtain ⟨t433, A190, H⟩ := H
         replace H : (if (((x3_1 ++ (⟨#[97, 117, 116, 104, 111, 114, 32]⟩ : ByteArray)) ++ a0_2) ++ (⟨#[10, 116, 105, 109, 101, 32]⟩ : ByteArray)).size + t433.size ≤ 9223372036854775807 then (if ((((x3_1 ++ (⟨#[97, 117, 116, 104, 111, 114, 32]⟩ : ByteArray)) ++ a0_2) ++ (⟨#[10, 116, 105, 109, 101, 32]⟩ : ByteArray)) ++ t433).size + 2 ≤ 9223372036854775807 then (if (((((x3_1 ++ (⟨#[97, 117, 116, 104, 111, 114, 32]⟩ : ByteArray)) ++ a0_2) ++ (⟨#[10, 116, 105, 109, 101, 32]⟩ : ByteArray)) ++ t433) ++ (⟨#[10, 10]⟩ : ByteArray)).size + a0_4.size ≤ 9223372036854775807 then (some ((((((x3_1 ++ (⟨#[97, 117, 116, 104, 111, 114, 32]⟩ : ByteArray)) ++ a0_2) ++ (⟨#[10, 116, 105, 109, 101, 32]⟩ : ByteArray)) ++ t433) ++ (⟨#[10, 10]⟩ : ByteArray)) ++ a0_4)) else (none)) else (none)) else (none)) = some r := H
         have A19 := Aside0.mk A190
         clear A190
         by_cases c20 : (((x3_1 ++ (⟨#[97, 117, 116, 104, 111, 114, 32]⟩ : ByteArray)) ++ a0_2) ++ (⟨#[10, 116, 105, 109, 101, 32]⟩ : ByteArray)).size + t433.size ≤ 9223372036854775807
         ·
          rw [if_pos c20] at H
          have c20b0 := eq_true c20
          have c20b1 : decide ((((x3_1 ++ (⟨#[97, 117, 116, 104, 111, 114, 32]⟩ : ByteArray)) ++ a0_2) ++ (⟨#[10, 116, 105, 109, 101, 32]⟩ : ByteArray)).size + t433.size ≤ 9223372036854775807) = true := decide_eq_true c20
          try have c20b2 : (9223372036854775807 < (((x3_1 ++ (⟨#[97, 117, 116, 104, 111, 114, 32]⟩ : ByteArray)) ++ a0_2) ++ (⟨#[10, 116, 105, 109, 101, 32]⟩ : ByteArray)).size + t433.size) = False := eq_false (Nat.not_lt.2 c20)
          try have c20b3 : (9223372036854775807 < x3_1.size + 7 + a0_2.size + 6 + t433.size) = False := eq_false (by have h_ := c20; simp only [ByteArray.size_append] at h_; first | exact Nat.not_lt.2 h_ | exact Nat.not_lt.2 (by simpa using h_))
          by_cases c21 : ((((x3_1 ++ (⟨#[97, 117, 116, 104, 111, 114, 32]⟩ : ByteArray)) ++ a0_2) ++ (⟨#[10, 116, 105, 109, 101, 32]⟩ : ByteArray)) ++ t433).size + 2 ≤ 9223372036854775807
          ·
           rw [if_pos c21] at H
           have c21b0 := eq_true c21
           have c21b1 : decide (((((x3_1 ++ (⟨#[97, 117, 116, 104, 111, 114, 32]⟩ : ByteArray)) ++ a0_2) ++ (⟨#[10, 116, 105, 109, 101, 32]⟩ : ByteArray)) ++ t433).size + 2 ≤ 9223372036854775807) = true := decide_eq_true c21
           try have c21b2 : (9223372036854775807 < ((((x3_1 ++ (⟨#[97, 117, 116, 104, 111, 114, 32]⟩ : ByteArray)) ++ a0_2) ++ (⟨#[10, 116, 105, 109, 101, 32]⟩ : ByteArray)) ++ t433).size + 2) = False := eq_false (Nat.not_lt.2 c21)
           try have c21b3 : (9223372036854775807 < x3_1.size + 7 + a0_2.size + 6 + t433.size + 2) = False := eq_false (by have h_ := c21; simp only [ByteArray.size_append] at h_; first | exact Nat.not_lt.2 h_ | exact Nat.not_lt.2 (by simpa using h_))
           by_cases c22 : (((((x3_1 ++ (⟨#[97, 117, 116, 104, 111, 114, 32]⟩ : ByteArray)) ++ a0_2) ++ (⟨#[10, 116, 105, 109, 101, 32]⟩ : ByteArray)) ++ t433) ++ (⟨#[10, 10]⟩ : ByteArray)).size + a0_4.size ≤ 9223372036854775807
           ·
            rw [if_pos c22] at H
            have c22b0 := eq_true c22
            have c22b1 : decide ((((((x3_1 ++ (⟨#[97, 117, 116, 104, 111, 114, 32]⟩ : ByteArray)) ++ a0_2) ++ (⟨#[10, 116, 105, 109, 101, 32]⟩ : ByteArray)) ++ t433) ++ (⟨#[10, 10]⟩ : ByteArray)).size + a0_4.size ≤ 9223372036854775807) = true := decide_eq_true c22
            try have c22b2 : (9223372036854775807 < (((((x3_1 ++ (⟨#[97, 117, 116, 104, 111, 114, 32]⟩ : ByteArray)) ++ a0_2) ++ (⟨#[10, 116, 105, 109, 101, 32]⟩ : ByteArray)) ++ t433) ++ (⟨#[10, 10]⟩ : ByteArray)).size + a0_4.size) = False := eq_false (Nat.not_lt.2 c22)
            try have c22b3 : (9223372036854775807 < x3_1.size + 7 + a0_2.size + 6 + t433.size + 2 + a0_4.size) = False := eq_false (by have h_ := c22; simp only [ByteArray.size_append] at h_; first | exact Nat.not_lt.2 h_ | exact Nat.not_lt.2 (by simpa using h_))
            obtain rfl := Option.some.inj H
            have hcz23_0 : wr.cell? ⟨gb429, 0, none⟩ = some (.string a0_0) := (blk_cell BK429.out 0).trans rfl
            have hcz23_1 : wr.cell? ⟨gb429, 1, none⟩ = some (.slice A0_1 l0_1.length c0_1) := (blk_cell BK429.out 1).trans rfl
            have hcz23_2 : wr.cell? ⟨gb429, 2, none⟩ = some (.string a0_2) := (blk_cell BK429.out 2).trans rfl
            have hcz23_3 : wr.cell? ⟨gb429, 3, none⟩ = some (.int .u64 a0_3) := (blk_cell BK429.out 3).trans rfl
            have hcz23_4 : wr.cell? ⟨gb429, 4, none⟩ = some (.string a0_4) := (blk_cell BK429.out 4).trans rfl
            have hfz23_0 := blk_frozen BK429.out 0
            have hfz23_1 := blk_frozen BK429.out 1
            have hfz23_2 := blk_frozen BK429.out 2
            have hfz23_3 := blk_frozen BK429.out 3
            have hfz23_4 := blk_frozen BK429.out 4
            try go_wp2
            have n0_ := Aside0.mk (blk_drew BK429.out)
            have n1_ := Aside0.mk (below_drew1 HB.out)
            clear BK429
            clear HB
            have BK429 := n0_
            have HB := n1_
            clear n0_ n1_
            refine start_ (n := 15) (S := fun w' => w'.cell? ⟨gb429, 0, none⟩ = some (.string a0_0) ∧ w'.cell? ⟨gb429, 1, none⟩ = some (.slice A0_1 l0_1.length c0_1) ∧ w'.cell? ⟨gb429, 2, none⟩ = some (.string a0_2) ∧ w'.cell? ⟨gb429, 3, none⟩ = some (.int .u64 a0_3) ∧ w'.cell? ⟨gb429, 4, none⟩ = some (.string a0_4)) (ds := []) #[false, false, false, false, false, false, false, false, false, false, false, false, false, false, false] (by kernel_rfl) rfl rfl ⟨(blk_cell BK429.out 0).trans rfl, (blk_cell BK429.out 1).trans rfl, (blk_cell BK429.out 2).trans rfl, (blk_cell BK429.out 3).trans rfl, (blk_cell BK429.out 4).trans rfl⟩ (fun hHeld => ?_); refine with_tabW pollardref07_PutCommit.tab6 pollardref07_PutCommit.bits6 (fun HT_ HW_ => ?_)
            generalize wr.drew = w24 at BK429 HB hHeld ⊢
            refine pure_ (i := 0) (N := some 27) (v := ?_) (a' := ?_) #[true, false, false, false, false, false, false, false, false, false, false, false, false, false, false] rfl rfl (any_of HT_.out (by kernel_rfl)) (fun _ _ _ h => h) (Or.inl ⟨by rfl, ?_⟩) ?_ ?_
            rotate_left
            · intro w'
              go_simp
              with_reducible rfl
            rotate_left
            · simp only [Act.put, List.setIfInBounds_toArray, List.set_cons_zero, List.set_cons_succ, i64_w, i32_w]
              rfl
            refine pure_ (i := 1) (N := some 28) (v := ?_) (a' := ?_) #[true, true, false, false, false, false, false, false, false, false, false, false, false, false, false] rfl rfl (any_of HT_.out (by kernel_rfl)) (fun _ _ _ h => h) (Or.inl ⟨by rfl, ?_⟩) ?_ ?_
            rotate_left
            · intro w'
              go_simp
              with_reducible rfl
            rotate_left
            · simp only [Act.put, List.setIfInBounds_toArray, List.set_cons_zero, List.set_cons_succ, i64_w, i32_w]
              rfl
            refine pure_ (i := 2) (N := some 29) (v := ?_) (a' := ?_) #[true, true, true, false, false, false, false, false, false, false, false, false, false, false, false] rfl rfl (any_of HT_.out (by kernel_rfl)) (fun _ _ _ h => h) (Or.inl ⟨by rfl, ?_⟩) ?_ ?_
            rotate_left
            · intro w'
              go_simp
              with_reducible rfl
            rotate_left
            · simp only [Act.put, List.setIfInBounds_toArray, List.set_cons_zero, List.set_cons_succ, i64_w, i32_w]
              rfl
            refine pure_ (i := 6) (N := some 33) (v := ?_) (a' := ?_) #[true, true, true, false, false, false, true, false, false, false, false, false, false, false, false] rfl rfl (any_of HT_.out (by kernel_rfl)) (fun _ _ _ h => h) (Or.inl ⟨by rfl, ?_⟩) ?_ ?_
            rotate_left
            · intro w'
              go_simp
              with_reducible rfl
            rotate_left
            · simp only [Act.put, List.setIfInBounds_toArray, List.set_cons_zero, List.set_cons_succ, i64_w, i32_w]
              rfl
            refine pure_ (i := 11) (N := some 38) (v := ?_) (a' := ?_) #[true, true, true, false, false, false, true, false, false, false, false, true, false, false, false] rfl rfl (any_of HT_.out (by kernel_rfl)) (fun _ _ _ h => h) (Or.inl ⟨by rfl, ?_⟩) ?_ ?_
            rotate_left
            · intro w'
              go_simp
              with_reducible rfl
            rotate_left
            · simp only [Act.put, List.setIfInBounds_toArray, List.set_cons_zero, List.set_cons_succ, i64_w, i32_w]
              rfl
            refine take_ (i := 3) (N := some 30) (v := ?_) (a' := ?_) #[true, true, true, true, false, false, true, false, false, false, false, true, false, false, false] rfl rfl (take_ofW HT_.out HW_.out (by kernel_rfl)) (fun _ _ _ h => h) (Or.inl ⟨by rfl, ?_⟩) hHeld ?_ ?_
            rotate_left
            · rintro w' ⟨s0, s1, s2, s3, s4⟩
              go_simp
              with_reducible rfl
            rotate_left
            · simp only [Act.put, List.setIfInBounds_toArray, List.set_cons_zero, List.set_cons_succ, i64_w, i32_w]
              rfl
            refine pure_ (i := 4) (N := some 31) (v := ?_) (a' := ?_) #[true, true, true, true, true, false, true, false, false, false, false, true, false, false, false] rfl rfl (any_of HT_.out (by kernel_rfl)) (fun _ _ _ h => h) (Or.inl ⟨by rfl, ?_⟩) ?_ ?_
            rotate_left
            · intro w'
              go_simp
              with_reducible rfl
            rotate_left
            · simp only [Act.put, List.setIfInBounds_toArray, List.set_cons_zero, List.set_cons_succ, i64_w, i32_w]
              rfl
            refine pure_ (i := 5) (N := some 32) (v := ?_) (a' := ?_) #[true, true, true, true, true, true, true, false, false, false, false, true, false, false, false] rfl rfl (any_of HT_.out (by kernel_rfl)) (fun _ _ _ h => h) (Or.inl ⟨by rfl, ?_⟩) ?_ ?_
            rotate_left
            · intro w'
              go_simp
              with_reducible rfl
            rotate_left
            · simp only [Act.put, List.setIfInBounds_toArray, List.set_cons_zero, List.set_cons_succ, i64_w, i32_w]
              rfl
            refine take_ (i := 7) (N := some 34) (v := ?_) (a' := ?_) #[true, true, true, true, true, true, true, true, false, false, false, true, false, false, false] rfl rfl (take_ofW HT_.out HW_.out (by kernel_rfl)) (fun _ _ _ h => h) (Or.inl ⟨by rfl, ?_⟩) hHeld ?_ ?_
            rotate_left
            · rintro w' ⟨s0, s1, s2, s3, s4⟩
              go_simp
              with_reducible rfl
            rotate_left
            · simp only [Act.put, List.setIfInBounds_toArray, List.set_cons_zero, List.set_cons_succ, i64_w, i32_w]
              rfl
            refine take_ (i := 12) (N := some 39) (v := ?_) (a' := ?_) #[true, true, true, true, true, true, true, true, false, false, false, true, true, false, false] rfl rfl (take_ofW HT_.out HW_.out (by kernel_rfl)) (fun _ _ _ h => h) (Or.inl ⟨by rfl, ?_⟩) hHeld ?_ ?_
            rotate_left
            · rintro w' ⟨s0, s1, s2, s3, s4⟩
              go_simp
              with_reducible rfl
            rotate_left
            · simp only [Act.put, List.setIfInBounds_toArray, List.set_cons_zero, List.set_cons_succ, i64_w, i32_w]
              rfl
            refine one_ (i := 8) (N := some 35) #[true, true, true, true, true, true, true, true, true, false, false, true, true, false, false] rfl rfl (one_of HT_.out (by kernel_rfl)) (by decide) (fun K hK => ?_)
            refine goes_ Tryd.func30 (by kernel_rfl) rfl #[.int .u64 a0_3] (by rfl) rfl rfl (by (try simp only [List.map_toArray, List.map_cons, List.map_nil]); first | done | rfl | (simp only [List.length_drop, List.length_take]; rfl)) ?_
            with_reducible refine (pollardref02_Dec.calls k1 a0_3 t433 _ A19.out).mono ?_
            rintro e w25 ⟨rfl, hb⟩
            refine ⟨_, rfl, ?_⟩
            have n0_ := Aside0.mk (blk_below (g := gb429) (o := .cells #[.string a0_0, .slice A0_1 l0_1.length c0_1, .string a0_2, .int .u64 a0_3, .string a0_4] 30 (0, 0)) (by (with_reducible repeat (first | refine blk_drewN ?_ _ | refine blk_drew ?_ | refine blk_alloc ?_ _)); exact BK429.out) hb)
            have n1_ := Aside0.mk (below_step (by repeat (first | (with_reducible first | exact HB.out | apply below_alloc | apply pw_below_drewN | apply below_drew1 | refine below_set ?_ GE429.out) | exact HB.out)) hb)
            clear BK429
            clear HB
            have BK429 := n0_
            have HB := n1_
            clear n0_ n1_
            (try clear hb)
            (try clear hb2)
            (try clear hk)
            (try clear hi)
            refine hK.out _ _ ⟨(blk_cell BK429.out 0).trans rfl, (blk_cell BK429.out 1).trans rfl, (blk_cell BK429.out 2).trans rfl, (blk_cell BK429.out 3).trans rfl, (blk_cell BK429.out 4).trans rfl⟩ (fun hHeld => ?_)
            clear hK K
            refine norm_ (a' := ?_) ?_ ?_
            rotate_left
            · show Act.put _ (some 35) _ = _
              simp only [Act.put, List.setIfInBounds_toArray, List.set_cons_zero, List.set_cons_succ, i64_w, i32_w]
              rfl
            refine pure_ (i := 9) (N := some 36) (v := ?_) (a' := ?_) #[true, true, true, true, true, true, true, true, true, true, false, true, true, false, false] rfl rfl (any_of HT_.out (by kernel_rfl)) (fun _ _ _ h => h) (Or.inl ⟨by rfl, ?_⟩) ?_ ?_
            rotate_left
            · intro w'
              go_simp
              with_reducible rfl
            rotate_left
            · simp only [Act.put, List.setIfInBounds_toArray, List.set_cons_zero, List.set_cons_succ, i64_w, i32_w]
              rfl
            refine pure_ (i := 10) (N := some 37) (v := ?_) (a' := ?_) #[true, true, true, true, true, true, true, true, true, true, true, true, true, false, false] rfl rfl (any_of HT_.out (by kernel_rfl)) (fun _ _ _ h => h) (Or.inl ⟨by rfl, ?_⟩) ?_ ?_
            rotate_left
            · intro w'
              go_simp
              with_reducible rfl
            rotate_left
            · simp only [Act.put, List.setIfInBounds_toArray, List.set_cons_zero, List.set_cons_succ, i64_w, i32_w]
              rfl
            refine pure_ (i := 13) (N := some 40) (v := ?_) (a' := ?_) #[true, true, true, true, true, true, true, true, true, true, true, true, true, true, false] rfl rfl (any_of HT_.out (by kernel_rfl)) (fun _ _ _ h => h) (Or.inl ⟨by rfl, ?_⟩) ?_ ?_
            rotate_left
            · intro w'
              go_simp
              with_reducible rfl
            rotate_left
            · simp only [Act.put, List.setIfInBounds_toArray, List.set_cons_zero, List.set_cons_succ, i64_w, i32_w]
              rfl
            refine pure_ (i := 14) (N := some 2) (v := ?_) (a' := ?_) #[true, true, true, true, true, true, true, true, true, true, true, true, true, true, true] rfl rfl (any_of HT_.out (by kernel_rfl)) (fun _ _ _ h => h) (Or.inl ⟨by rfl, ?_⟩) ?_ ?_
            rotate_left
            · intro w'
              go_simp
              with_reducible rfl
            rotate_left
            · simp only [Act.put, List.setIfInBounds_toArray, List.set_cons_zero, List.set_cons_succ, i64_w, i32_w]
              rfl
            refine done_ (done_of HT_.out (by kernel_rfl)) ?_
            try go_wp2
            go_ret
            exact ⟨by first | rfl | (simp [errW_none, errW_some] <;> rfl) | (simp [*, errW_none, errW_some] <;> rfl), by repeat (first | (with_reducible first | exact HB.out | apply below_alloc | apply pw_below_drewN | apply below_drew1 | refine below_set ?_ GE429.out) | exact HB.out)⟩
           · rw [if_neg c22] at H
             exact absurd H (by simp)
          · rw [if_neg c21] at H
            exact absurd H (by simp)
         · rw [if_neg c20] at H
           exact absurd H (by simp)
        · rw [if_neg c18] at H
          exact absurd H (by simp)
       · rw [if_neg c17] at H
         exact absurd H (by simp)
      · rw [if_neg c16] at H
        exact absurd H (by simp)
  · rw [if_neg c4] at H
    exact absurd H (by simp)
 · rw [if_neg c3] at H
   exact absurd H (by simp)

end Go.Proofs.YtnapcfpecpgdbaaDoor.M
