/- The program's functions as plain functions, and that each call comes to what these tell; written by a program of this session, some contracts by hand. Conditions: none. -/
import Derived.Test.YtnapcfpecpgdbaaDoorMx0
namespace Go.Proofs.YtnapcfpecpgdbaaDoor.M
open Go.RowKit Go.Proofs.YtnapcfpecpgdbaaDoorW.PrintWords Go.Proofs.YtnapcfpecpgdbaaDoorW.PrintLast Go.Proofs.YtnapcfpecpgdbaaDoorW.PrintMore
attribute [local go_sem] max2_int min2_int max_two min_two max_three min_three max_four min_four   -- for this text's walks alone
set_option linter.unusedVariables false
set_option linter.unusedSimpArgs false

/-! ### pollardlaw07_same: function 10 -/
def pollardlaw07_same.l0 : Nat → Int → ByteArray → List ByteArray → ByteArray → Int → ByteArray → ByteArray → List ByteArray → ByteArray → Int → ByteArray → Option (Bool)
 | 0, _, _, _, _, _, _, _, _, _, _, _ => none
 | k + 1, x5, x415000, x415001, x415002, x415003, x415004, x416000, x416001, x416002, x416003, x416004 => if x5 < (x415001.length : Int) then (if 0 ≤ x5 then (if x5 < (x416001.length : Int) then (if (rdOf ByteArray.empty x415001 x5).toList = (rdOf ByteArray.empty x416001 x5).toList then (pollardlaw07_same.l0 k (wrap64 (x5 + 1)) x415000 x415001 x415002 x415003 x415004 x416000 x416001 x416002 x416003 x416004) else (some false)) else (none)) else (none)) else (if x415000.toList = x416000.toList then (if x415002.toList = x416002.toList then (if x415003 = x416003 then (some (x415004.toList == x416004.toList)) else (some false)) else (some false)) else (some false))
def pollardlaw07_same.f (k : Nat) (a0_0 : ByteArray) (l0_1 : List ByteArray) (a0_2 : ByteArray) (a0_3 : Int) (a0_4 : ByteArray) (a1_0 : ByteArray) (l1_1 : List ByteArray) (a1_2 : ByteArray) (a1_3 : Int) (a1_4 : ByteArray) : Option (Bool) := if (l0_1.length : Int) = (l1_1.length : Int) then (pollardlaw07_same.l0 k 0 a0_0 l0_1 a0_2 a0_3 a0_4 a1_0 l1_1 a1_2 a1_3 a1_4) else (some false)
theorem pollardlaw07_same.mono_l : ∀ k, (∀ y0 y1 y2 y3 y4 y5 y6 y7 y8 y9 y10, LeO (pollardlaw07_same.l0 k y0 y1 y2 y3 y4 y5 y6 y7 y8 y9 y10) (pollardlaw07_same.l0 (k + 1) y0 y1 y2 y3 y4 y5 y6 y7 y8 y9 y10))
 | 0 => fun _ _ _ _ _ _ _ _ _ _ _ r h => by simp [pollardlaw07_same.l0] at h
 | k + 1 => by
  have ih0 := pollardlaw07_same.mono_l k
  · intro y0 y1 y2 y3 y4 y5 y6 y7 y8 y9 y10
    unfold pollardlaw07_same.l0
    repeat' first
    | (with_reducible exact ih0 _ _ _ _ _ _ _ _ _ _ _)
    | (with_reducible exact LeO.refl _)
    | (with_reducible exact LeO.none _)
    | (with_reducible refine LeO.ite ?_ ?_)
    | (with_reducible refine LeO.bind ?_ (fun _ => ?_))
    | exact ih0 _ _ _ _ _ _ _ _ _ _ _
    | exact LeO.none _
    | refine LeO.ite ?_ ?_
    | refine LeO.bind ?_ (fun _ => ?_)
theorem pollardlaw07_same.mono : ∀ a0 a1 a2 a3 a4 a5 a6 a7 a8 a9 k, LeO (pollardlaw07_same.f k a0 a1 a2 a3 a4 a5 a6 a7 a8 a9) (pollardlaw07_same.f (k + 1) a0 a1 a2 a3 a4 a5 a6 a7 a8 a9) := by
 intro a0 a1 a2 a3 a4 a5 a6 a7 a8 a9 k
 have ih0 := pollardlaw07_same.mono_l k
 unfold pollardlaw07_same.f
 repeat' first
  | (with_reducible exact ih0 _ _ _ _ _ _ _ _ _ _ _)
  | (with_reducible exact LeO.refl _)
  | (with_reducible exact LeO.none _)
  | (with_reducible refine LeO.ite ?_ ?_)
  | (with_reducible refine LeO.bind ?_ (fun _ => ?_))
  | exact ih0 _ _ _ _ _ _ _ _ _ _ _
  | exact LeO.none _
  | refine LeO.ite ?_ ?_
  | refine LeO.bind ?_ (fun _ => ?_)
set_option maxHeartbeats 8000000 in
set_option maxRecDepth 100000 in
theorem pollardlaw07_same.calls (k : Nat) (a0_0 : ByteArray) (A0_1 : Option Addr) (c0_1 : Nat) (l0_1 : List ByteArray) (a0_2 : ByteArray) (a0_3 : Int) (a0_4 : ByteArray) (a1_0 : ByteArray) (A1_1 : Option Addr) (c1_1 : Nat) (l1_1 : List ByteArray) (a1_2 : ByteArray) (a1_3 : Int) (a1_4 : ByteArray) (r : Bool) (w : World) (hr0_1 : Kd.C Kd.string w A0_1 l0_1.length l0_1) (hc0_1 : l0_1.length ≤ c0_1) (hr1_1 : Kd.C Kd.string w A1_1 l1_1.length l1_1) (hc1_1 : l1_1.length ≤ c1_1) (h : pollardlaw07_same.f k a0_0 l0_1 a0_2 a0_3 a0_4 a1_0 l1_1 a1_2 a1_3 a1_4 = some r) :
 Calls Tryd.prog 10 #[.agg #[.string a0_0, .slice A0_1 l0_1.length c0_1, .string a0_2, .int .u64 a0_3, .string a0_4], .agg #[.string a1_0, .slice A1_1 l1_1.length c1_1, .string a1_2, .int .u64 a1_3, .string a1_4]] w fun e w' => e = .returned (.bool r) ∧ Below w.heap.size w w' := by
 have hu25 := Tryd.underlying25
 have hu30 := Tryd.underlying30
 have HR0_1 := Aside0.mk hr0_1
 have HC0_1 := Aside0.mk hc0_1
 clear hr0_1 hc0_1
 have HR1_1 := Aside0.mk hr1_1
 have HC1_1 := Aside0.mk hc1_1
 clear hr1_1 hc1_1
 have HB := Aside0.mk (Below.refl w.heap.size w)
 have H : (if (l0_1.length : Int) = (l1_1.length : Int) then (pollardlaw07_same.l0 k 0 a0_0 l0_1 a0_2 a0_3 a0_4 a1_0 l1_1 a1_2 a1_3 a1_4) else (some false)) = some r := h
 clear h
 by_cases c3 : (l0_1.length : Int) = (l1_1.length : Int)
 ·
  rw [if_pos c3] at H
  have c3b0 : ((l0_1.length : Int) == (l1_1.length : Int)) = true := beq_iff_eq.mpr c3
  have c3b1 : ((l0_1.length : Int) != (l1_1.length : Int)) = false := bne_eq_false_iff_eq.mpr c3
  have c3b2 : (l0_1.length == l1_1.length) = true := by first | simpa using c3 | (simp at c3 ⊢; omega)
  clear c3
  have H' := Aside0.mk H
  clear H
  go_enter Tryd.func10, Tryd.ntmps10
  go_wp2_with (first | ((with_reducible refine gate_dst (N := 2) rfl ?_); refine box_event ?hg (N := 2) ?hd (cs := #[.string a0_0, .slice A0_1 l0_1.length c0_1, .string a0_2, .int .u64 a0_3, .string a0_4]) (t := 25) ?hr ?_; (case hd => rfl); (case hg => rfl); (case hr => first | (go_simp; done) | (go_simp; rfl) | (go_simp; simp only [show ∀ x_ : Int, IntKind.u8.wrap x_ = x_ % 256 from fun _ => rfl, Int.add_emod_emod, Int.emod_add_emod, Int.emod_emod]; done)); intro gb414 hg w4 hbox hb; have n0_ := Aside0.mk (below_step (by repeat (first | (with_reducible first | exact HB.out | apply below_alloc | apply pw_below_drewN | apply below_drew1) | exact HB.out)) hb); have n1_ := Aside0.mk (hbox); have n2_ := Aside0.mk ((by rw [hg]; exact (below_size (by repeat (first | (with_reducible first | exact HB.out | apply below_alloc | apply pw_below_drewN | apply below_drew1) | exact HB.out))) : w.heap.size ≤ gb414)); have n3_ := Aside0.mk ((by rw [hg]; exact (below_size (by repeat (first | (with_reducible first | exact HB.out | apply below_alloc | apply pw_below_drewN | apply below_drew1) | exact HB.out))) : w.heap.size ≤ gb414)); clear HB; have HB := n0_; have BK414 := n1_; have GW414 := n2_; have GE414 := n3_; clear n0_ n1_ n2_ n3_; clear hb hbox hg) | ((with_reducible refine gate_dst (N := 3) rfl ?_); refine box_event ?hg (N := 3) ?hd (cs := #[.string a1_0, .slice A1_1 l1_1.length c1_1, .string a1_2, .int .u64 a1_3, .string a1_4]) (t := 30) ?hr ?_; (case hd => rfl); (case hg => rfl); (case hr => first | (go_simp; done) | (go_simp; rfl) | (go_simp; simp only [show ∀ x_ : Int, IntKind.u8.wrap x_ = x_ % 256 from fun _ => rfl, Int.add_emod_emod, Int.emod_add_emod, Int.emod_emod]; done)); intro gb415 hg w5 hbox hb; have n0_ := Aside0.mk (blk_below (g := gb414) (o := .cells #[.string a0_0, .slice A0_1 l0_1.length c0_1, .string a0_2, .int .u64 a0_3, .string a0_4] 25 (0, 0)) (by (with_reducible repeat (first | refine blk_drewN ?_ _ | refine blk_drew ?_ | refine blk_alloc ?_ _)); exact BK414.out) hb); have n1_ := Aside0.mk (below_step (by repeat (first | (with_reducible first | exact HB.out | apply below_alloc | apply pw_below_drewN | apply below_drew1 | refine below_set ?_ GE414.out) | exact HB.out)) hb); have n2_ := Aside0.mk (hbox); have n3_ := Aside0.mk ((by rw [hg]; exact (below_size (by repeat (first | (with_reducible first | exact HB.out | apply below_alloc | apply pw_below_drewN | apply below_drew1 | refine below_set ?_ GE414.out) | exact HB.out))) : w.heap.size ≤ gb415)); have n4_ := Aside0.mk ((by rw [hg]; exact (below_size (by repeat (first | (with_reducible first | exact HB.out | apply below_alloc | apply pw_below_drewN | apply below_drew1 | refine below_set ?_ GE414.out) | exact HB.out))) : w.heap.size ≤ gb415)); have n5_ := Aside0.mk ((by rw [hg]; exact Nat.ne_of_lt (blk_lt (g := gb414) (o := .cells #[.string a0_0, .slice A0_1 l0_1.length c0_1, .string a0_2, .int .u64 a0_3, .string a0_4] 25 (0, 0)) (by (with_reducible repeat (first | refine blk_drewN ?_ _ | refine blk_drew ?_ | refine blk_alloc ?_ _)); exact BK414.out)) : gb414 ≠ gb415)); have n6_ := Aside0.mk ((by rw [hg]; exact Nat.ne_of_gt (blk_lt (g := gb414) (o := .cells #[.string a0_0, .slice A0_1 l0_1.length c0_1, .string a0_2, .int .u64 a0_3, .string a0_4] 25 (0, 0)) (by (with_reducible repeat (first | refine blk_drewN ?_ _ | refine blk_drew ?_ | refine blk_alloc ?_ _)); exact BK414.out)) : gb415 ≠ gb414)); clear BK414; clear HB; have BK414 := n0_; have HB := n1_; have BK415 := n2_; have GW415 := n3_; have GE415 := n4_; have NB414_415 := n5_; have NB415_414 := n6_; clear n0_ n1_ n2_ n3_ n4_ n5_ n6_; clear hb hbox hg; have hnb6 := NB414_415.out; have hnc6 := NB415_414.out; have hcz7_0 : w5.cell? ⟨gb414, 0, none⟩ = some (.string a0_0) := (blk_cell BK414.out 0).trans rfl; have hcz7_1 : w5.cell? ⟨gb414, 1, none⟩ = some (.slice A0_1 l0_1.length c0_1) := (blk_cell BK414.out 1).trans rfl; have hcz7_2 : w5.cell? ⟨gb414, 2, none⟩ = some (.string a0_2) := (blk_cell BK414.out 2).trans rfl; have hcz7_3 : w5.cell? ⟨gb414, 3, none⟩ = some (.int .u64 a0_3) := (blk_cell BK414.out 3).trans rfl; have hcz7_4 : w5.cell? ⟨gb414, 4, none⟩ = some (.string a0_4) := (blk_cell BK414.out 4).trans rfl; have hfz7_0 := blk_frozen BK414.out 0; have hfz7_1 := blk_frozen BK414.out 1; have hfz7_2 := blk_frozen BK414.out 2; have hfz7_3 := blk_frozen BK414.out 3; have hfz7_4 := blk_frozen BK414.out 4; have hcz8_0 : w5.cell? ⟨gb415, 0, none⟩ = some (.string a1_0) := (blk_cell BK415.out 0).trans rfl; have hcz8_1 : w5.cell? ⟨gb415, 1, none⟩ = some (.slice A1_1 l1_1.length c1_1) := (blk_cell BK415.out 1).trans rfl; have hcz8_2 : w5.cell? ⟨gb415, 2, none⟩ = some (.string a1_2) := (blk_cell BK415.out 2).trans rfl; have hcz8_3 : w5.cell? ⟨gb415, 3, none⟩ = some (.int .u64 a1_3) := (blk_cell BK415.out 3).trans rfl; have hcz8_4 : w5.cell? ⟨gb415, 4, none⟩ = some (.string a1_4) := (blk_cell BK415.out 4).trans rfl; have hfz8_0 := blk_frozen BK415.out 0; have hfz8_1 := blk_frozen BK415.out 1; have hfz8_2 := blk_frozen BK415.out 2; have hfz8_3 := blk_frozen BK415.out 3; have hfz8_4 := blk_frozen BK415.out 4))
  repeat (go_quiet (first | ((with_reducible refine gate_dst (N := 2) rfl ?_); refine box_event ?hg (N := 2) ?hd (cs := #[.string a0_0, .slice A0_1 l0_1.length c0_1, .string a0_2, .int .u64 a0_3, .string a0_4]) (t := 25) ?hr ?_; (case hd => rfl); (case hg => rfl); (case hr => first | (go_simp; done) | (go_simp; rfl) | (go_simp; simp only [show ∀ x_ : Int, IntKind.u8.wrap x_ = x_ % 256 from fun _ => rfl, Int.add_emod_emod, Int.emod_add_emod, Int.emod_emod]; done)); intro gb414 hg w4 hbox hb; have n0_ := Aside0.mk (below_step (by repeat (first | (with_reducible first | exact HB.out | apply below_alloc | apply pw_below_drewN | apply below_drew1) | exact HB.out)) hb); have n1_ := Aside0.mk (hbox); have n2_ := Aside0.mk ((by rw [hg]; exact (below_size (by repeat (first | (with_reducible first | exact HB.out | apply below_alloc | apply pw_below_drewN | apply below_drew1) | exact HB.out))) : w.heap.size ≤ gb414)); have n3_ := Aside0.mk ((by rw [hg]; exact (below_size (by repeat (first | (with_reducible first | exact HB.out | apply below_alloc | apply pw_below_drewN | apply below_drew1) | exact HB.out))) : w.heap.size ≤ gb414)); clear HB; have HB := n0_; have BK414 := n1_; have GW414 := n2_; have GE414 := n3_; clear n0_ n1_ n2_ n3_; clear hb hbox hg) | ((with_reducible refine gate_dst (N := 3) rfl ?_); refine box_event ?hg (N := 3) ?hd (cs := #[.string a1_0, .slice A1_1 l1_1.length c1_1, .string a1_2, .int .u64 a1_3, .string a1_4]) (t := 30) ?hr ?_; (case hd => rfl); (case hg => rfl); (case hr => first | (go_simp; done) | (go_simp; rfl) | (go_simp; simp only [show ∀ x_ : Int, IntKind.u8.wrap x_ = x_ % 256 from fun _ => rfl, Int.add_emod_emod, Int.emod_add_emod, Int.emod_emod]; done)); intro gb415 hg w5 hbox hb; have n0_ := Aside0.mk (blk_below (g := gb414) (o := .cells #[.string a0_0, .slice A0_1 l0_1.length c0_1, .string a0_2, .int .u64 a0_3, .string a0_4] 25 (0, 0)) (by (with_reducible repeat (first | refine blk_drewN ?_ _ | refine blk_drew ?_ | refine blk_alloc ?_ _)); exact BK414.out) hb); have n1_ := Aside0.mk (below_step (by repeat (first | (with_reducible first | exact HB.out | apply below_alloc | apply pw_below_drewN | apply below_drew1 | refine below_set ?_ GE414.out) | exact HB.out)) hb); have n2_ := Aside0.mk (hbox); have n3_ := Aside0.mk ((by rw [hg]; exact (below_size (by repeat (first | (with_reducible first | exact HB.out | apply below_alloc | apply pw_below_drewN | apply below_drew1 | refine below_set ?_ GE414.out) | exact HB.out))) : w.heap.size ≤ gb415)); have n4_ := Aside0.mk ((by rw [hg]; exact (below_size (by repeat (first | (with_reducible first | exact HB.out | apply below_alloc | apply pw_below_drewN | apply below_drew1 | refine below_set ?_ GE414.out) | exact HB.out))) : w.heap.size ≤ gb415)); have n5_ := Aside0.mk ((by rw [hg]; exact Nat.ne_of_lt (blk_lt (g := gb414) (o := .cells #[.string a0_0, .slice A0_1 l0_1.length c0_1, .string a0_2, .int .u64 a0_3, .string a0_4] 25 (0, 0)) (by (with_reducible repeat (first | refine blk_drewN ?_ _ | refine blk_drew ?_ | refine blk_alloc ?_ _)); exact BK414.out)) : gb414 ≠ gb415)); have n6_ := Aside0.mk ((by rw [hg]; exact Nat.ne_of_gt (blk_lt (g := gb414) (o := .cells #[.string a0_0, .slice A0_1 l0_1.length c0_1, .string a0_2, .int .u64 a0_3, .string a0_4] 25 (0, 0)) (by (with_reducible repeat (first | refine blk_drewN ?_ _ | refine blk_drew ?_ | refine blk_alloc ?_ _)); exact BK414.out)) : gb415 ≠ gb414)); clear BK414; clear HB; have BK414 := n0_; have HB := n1_; have BK415 := n2_; have GW415 := n3_; have GE415 := n4_; have NB414_415 := n5_; have NB415_414 := n6_; clear n0_ n1_ n2_ n3_ n4_ n5_ n6_; clear hb hbox hg; have hnb6 := NB414_415.out; have hnc6 := NB415_414.out; have hcz7_0 : w5.cell? ⟨gb414, 0, none⟩ = some (.string a0_0) := (blk_cell BK414.out 0).trans rfl; have hcz7_1 : w5.cell? ⟨gb414, 1, none⟩ = some (.slice A0_1 l0_1.length c0_1) := (blk_cell BK414.out 1).trans rfl; have hcz7_2 : w5.cell? ⟨gb414, 2, none⟩ = some (.string a0_2) := (blk_cell BK414.out 2).trans rfl; have hcz7_3 : w5.cell? ⟨gb414, 3, none⟩ = some (.int .u64 a0_3) := (blk_cell BK414.out 3).trans rfl; have hcz7_4 : w5.cell? ⟨gb414, 4, none⟩ = some (.string a0_4) := (blk_cell BK414.out 4).trans rfl; have hfz7_0 := blk_frozen BK414.out 0; have hfz7_1 := blk_frozen BK414.out 1; have hfz7_2 := blk_frozen BK414.out 2; have hfz7_3 := blk_frozen BK414.out 3; have hfz7_4 := blk_frozen BK414.out 4; have hcz8_0 : w5.cell? ⟨gb415, 0, none⟩ = some (.string a1_0) := (blk_cell BK415.out 0).trans rfl; have hcz8_1 : w5.cell? ⟨gb415, 1, none⟩ = some (.slice A1_1 l1_1.length c1_1) := (blk_cell BK415.out 1).trans rfl; have hcz8_2 : w5.cell? ⟨gb415, 2, none⟩ = some (.string a1_2) := (blk_cell BK415.out 2).trans rfl; have hcz8_3 : w5.cell? ⟨gb415, 3, none⟩ = some (.int .u64 a1_3) := (blk_cell BK415.out 3).trans rfl; have hcz8_4 : w5.cell? ⟨gb415, 4, none⟩ = some (.string a1_4) := (blk_cell BK415.out 4).trans rfl; have hfz8_0 := blk_frozen BK415.out 0; have hfz8_1 := blk_frozen BK415.out 1; have hfz8_2 := blk_frozen BK415.out 2; have hfz8_3 := blk_frozen BK415.out 3; have hfz8_4 := blk_frozen BK415.out 4)); try go_wp2_with (first | ((with_reducible refine gate_dst (N := 2) rfl ?_); refine box_event ?hg (N := 2) ?hd (cs := #[.string a0_0, .slice A0_1 l0_1.length c0_1, .string a0_2, .int .u64 a0_3, .string a0_4]) (t := 25) ?hr ?_; (case hd => rfl); (case hg => rfl); (case hr => first | (go_simp; done) | (go_simp; rfl) | (go_simp; simp only [show ∀ x_ : Int, IntKind.u8.wrap x_ = x_ % 256 from fun _ => rfl, Int.add_emod_emod, Int.emod_add_emod, Int.emod_emod]; done)); intro gb414 hg w4 hbox hb; have n0_ := Aside0.mk (below_step (by repeat (first | (with_reducible first | exact HB.out | apply below_alloc | apply pw_below_drewN | apply below_drew1) | exact HB.out)) hb); have n1_ := Aside0.mk (hbox); have n2_ := Aside0.mk ((by rw [hg]; exact (below_size (by repeat (first | (with_reducible first | exact HB.out | apply below_alloc | apply pw_below_drewN | apply below_drew1) | exact HB.out))) : w.heap.size ≤ gb414)); have n3_ := Aside0.mk ((by rw [hg]; exact (below_size (by repeat (first | (with_reducible first | exact HB.out | apply below_alloc | apply pw_below_drewN | apply below_drew1) | exact HB.out))) : w.heap.size ≤ gb414)); clear HB; have HB := n0_; have BK414 := n1_; have GW414 := n2_; have GE414 := n3_; clear n0_ n1_ n2_ n3_; clear hb hbox hg) | ((with_reducible refine gate_dst (N := 3) rfl ?_); refine box_event ?hg (N := 3) ?hd (cs := #[.string a1_0, .slice A1_1 l1_1.length c1_1, .string a1_2, .int .u64 a1_3, .string a1_4]) (t := 30) ?hr ?_; (case hd => rfl); (case hg => rfl); (case hr => first | (go_simp; done) | (go_simp; rfl) | (go_simp; simp only [show ∀ x_ : Int, IntKind.u8.wrap x_ = x_ % 256 from fun _ => rfl, Int.add_emod_emod, Int.emod_add_emod, Int.emod_emod]; done)); intro gb415 hg w5 hbox hb; have n0_ := Aside0.mk (blk_below (g := gb414) (o := .cells #[.string a0_0, .slice A0_1 l0_1.length c0_1, .string a0_2, .int .u64 a0_3, .string a0_4] 25 (0, 0)) (by (with_reducible repeat (first | refine blk_drewN ?_ _ | refine blk_drew ?_ | refine blk_alloc ?_ _)); exact BK414.out) hb); have n1_ := Aside0.mk (below_step (by repeat (first | (with_reducible first | exact HB.out | apply below_alloc | apply pw_below_drewN | apply below_drew1 | refine below_set ?_ GE414.out) | exact HB.out)) hb); have n2_ := Aside0.mk (hbox); have n3_ := Aside0.mk ((by rw [hg]; exact (below_size (by repeat (first | (with_reducible first | exact HB.out | apply below_alloc | apply pw_below_drewN | apply below_drew1 | refine below_set ?_ GE414.out) | exact HB.out))) : w.heap.size ≤ gb415)); have n4_ := Aside0.mk ((by rw [hg]; exact (below_size (by repeat (first | (with_reducible first | exact HB.out | apply below_alloc | apply pw_below_drewN | apply below_drew1 | refine below_set ?_ GE414.out) | exact HB.out))) : w.heap.size ≤ gb415)); have n5_ := Aside0.mk ((by rw [hg]; exact Nat.ne_of_lt (blk_lt (g := gb414) (o := .cells #[.string a0_0, .slice A0_1 l0_1.length c0_1, .string a0_2, .int .u64 a0_3, .string a0_4] 25 (0, 0)) (by (with_reducible repeat (first | refine blk_drewN ?_ _ | refine blk_drew ?_ | refine blk_alloc ?_ _)); exact BK414.out)) : gb414 ≠ gb415)); have n6_ := Aside0.mk ((by rw [hg]; exact Nat.ne_of_gt (blk_lt (g := gb414) (o := .cells #[.string a0_0, .slice A0_1 l0_1.length c0_1, .string a0_2, .int .u64 a0_3, .string a0_4] 25 (0, 0)) (by (with_reducible repeat (first | refine blk_drewN ?_ _ | refine blk_drew ?_ | refine blk_alloc ?_ _)); exact BK414.out)) : gb415 ≠ gb414)); clear BK414; clear HB; have BK414 := n0_; have HB := n1_; have BK415 := n2_; have GW415 := n3_; have GE415 := n4_; have NB414_415 := n5_; have NB415_414 := n6_; clear n0_ n1_ n2_ n3_ n4_ n5_ n6_; clear hb hbox hg; have hnb6 := NB414_415.out; have hnc6 := NB415_414.out; have hcz7_0 : w5.cell? ⟨gb414, 0, none⟩ = some (.string a0_0) := (blk_cell BK414.out 0).trans rfl; have hcz7_1 : w5.cell? ⟨gb414, 1, none⟩ = some (.slice A0_1 l0_1.length c0_1) := (blk_cell BK414.out 1).trans rfl; have hcz7_2 : w5.cell? ⟨gb414, 2, none⟩ = some (.string a0_2) := (blk_cell BK414.out 2).trans rfl; have hcz7_3 : w5.cell? ⟨gb414, 3, none⟩ = some (.int .u64 a0_3) := (blk_cell BK414.out 3).trans rfl; have hcz7_4 : w5.cell? ⟨gb414, 4, none⟩ = some (.string a0_4) := (blk_cell BK414.out 4).trans rfl; have hfz7_0 := blk_frozen BK414.out 0; have hfz7_1 := blk_frozen BK414.out 1; have hfz7_2 := blk_frozen BK414.out 2; have hfz7_3 := blk_frozen BK414.out 3; have hfz7_4 := blk_frozen BK414.out 4; have hcz8_0 : w5.cell? ⟨gb415, 0, none⟩ = some (.string a1_0) := (blk_cell BK415.out 0).trans rfl; have hcz8_1 : w5.cell? ⟨gb415, 1, none⟩ = some (.slice A1_1 l1_1.length c1_1) := (blk_cell BK415.out 1).trans rfl; have hcz8_2 : w5.cell? ⟨gb415, 2, none⟩ = some (.string a1_2) := (blk_cell BK415.out 2).trans rfl; have hcz8_3 : w5.cell? ⟨gb415, 3, none⟩ = some (.int .u64 a1_3) := (blk_cell BK415.out 3).trans rfl; have hcz8_4 : w5.cell? ⟨gb415, 4, none⟩ = some (.string a1_4) := (blk_cell BK415.out 4).trans rfl; have hfz8_0 := blk_frozen BK415.out 0; have hfz8_1 := blk_frozen BK415.out 1; have hfz8_2 := blk_frozen BK415.out 2; have hfz8_3 := blk_frozen BK415.out 3; have hfz8_4 := blk_frozen BK415.out 4)))
  go_loopg [5] k (fun kq v5 w' => ∃ (x5_1 : Int), v5 = .int .i64 x5_1 ∧ Aside0 (pollardlaw07_same.l0 kq x5_1 a0_0 l0_1 a0_2 a0_3 a0_4 a1_0 l1_1 a1_2 a1_3 a1_4 = some r) ∧ Aside0 (kq ≤ k) ∧ Aside0 (w'.heap[gb414]? = some (.cells #[.string a0_0, (.slice A0_1 l0_1.length c0_1), .string a0_2, .int .u64 a0_3, .string a0_4] 25 (0, 0))) ∧ Aside0 (w'.heap[gb415]? = some (.cells #[.string a1_0, (.slice A1_1 l1_1.length c1_1), .string a1_2, .int .u64 a1_3, .string a1_4] 30 (0, 0))) ∧ Aside0 (Below w.heap.size w w'))
  case atStart => exact ⟨(0), (by first | rfl | (simp; done) | (simp [*]; done)), H', ⟨Nat.le_refl _⟩, ⟨by (with_reducible repeat (first | refine blk_drewN ?_ _ | refine blk_drew ?_ | refine blk_alloc ?_ _)); exact BK414.out⟩, ⟨by (with_reducible repeat (first | refine blk_drewN ?_ _ | refine blk_drew ?_ | refine blk_alloc ?_ _)); exact BK415.out⟩, ⟨by repeat (first | (with_reducible first | exact HB.out | apply below_alloc | apply pw_below_drewN | apply below_drew1 | refine below_set ?_ GE414.out | refine below_set ?_ GE415.out) | exact HB.out)⟩⟩
  case round =>
   clear H'
   try clear c1
   try clear p2
   try clear c3
   try clear c3b0
   try clear c3b1
   try clear c3b2
   try clear c6
   try clear hcz7_0
   try clear hcz7_1
   try clear hcz7_2
   try clear hcz7_3
   try clear hcz7_4
   try clear hcz8_0
   try clear hcz8_1
   try clear hcz8_2
   try clear hcz8_3
   try clear hcz8_4
   try clear hfz7_0
   try clear hfz7_1
   try clear hfz7_2
   try clear hfz7_3
   try clear hfz7_4
   try clear hfz8_0
   try clear hfz8_1
   try clear hfz8_2
   try clear hfz8_3
   try clear hfz8_4
   obtain ⟨x5_1, rfl, HA, HK1, BK414, BK415, HB⟩ := hrel
   cases gk with
   | zero => exact absurd HA.out (by simp [pollardlaw07_same.l0])
   | succ k1 =>
    have H := HA.out
    clear HA
    simp only [pollardlaw07_same.l0] at H
    by_cases c9 : x5_1 < (l0_1.length : Int)
    ·
     rw [if_pos c9] at H
     have c9b0 : decide (x5_1 < (l0_1.length : Int)) = true := decide_eq_true c9
     clear c9
     by_cases c10 : 0 ≤ x5_1
     ·
      rw [if_pos c10] at H
      have c10b0 : decide (0 ≤ x5_1) = true := decide_eq_true c10
      clear c10
      by_cases c11 : x5_1 < (l1_1.length : Int)
      ·
       rw [if_pos c11] at H
       have c11b0 : decide (x5_1 < (l1_1.length : Int)) = true := decide_eq_true c11
       clear c11
       by_cases c12 : (rdOf ByteArray.empty l0_1 x5_1).toList = (rdOf ByteArray.empty l1_1 x5_1).toList
       ·
        rw [if_pos c12] at H
        have c12b0 : ((rdOf ByteArray.empty l0_1 x5_1).toList == (rdOf ByteArray.empty l1_1 x5_1).toList) = true := beq_iff_eq.mpr c12
        have c12b1 : ((rdOf ByteArray.empty l0_1 x5_1).toList != (rdOf ByteArray.empty l1_1 x5_1).toList) = false := bne_eq_false_iff_eq.mpr c12
        clear c12
        have H' := Aside0.mk H
        clear H
        have hnb13 := NB414_415.out
        have hnc13 := NB415_414.out
        have hcz14_0 : wr.cell? ⟨gb414, 0, none⟩ = some (.string a0_0) := (blk_cell BK414.out 0).trans rfl
        have hcz14_1 : wr.cell? ⟨gb414, 1, none⟩ = some (.slice A0_1 l0_1.length c0_1) := (blk_cell BK414.out 1).trans rfl
        have hcz14_2 : wr.cell? ⟨gb414, 2, none⟩ = some (.string a0_2) := (blk_cell BK414.out 2).trans rfl
        have hcz14_3 : wr.cell? ⟨gb414, 3, none⟩ = some (.int .u64 a0_3) := (blk_cell BK414.out 3).trans rfl
        have hcz14_4 : wr.cell? ⟨gb414, 4, none⟩ = some (.string a0_4) := (blk_cell BK414.out 4).trans rfl
        have hfz14_0 := blk_frozen BK414.out 0
        have hfz14_1 := blk_frozen BK414.out 1
        have hfz14_2 := blk_frozen BK414.out 2
        have hfz14_3 := blk_frozen BK414.out 3
        have hfz14_4 := blk_frozen BK414.out 4
        have p416 : 0 ≤ (x5_1 : Int) := of_decide_eq_true (by first | (with_reducible assumption) | assumption)
        have q416 : x5_1 < (l0_1.length : Int) := of_decide_eq_true (by first | (with_reducible assumption) | assumption)
        obtain ⟨ad416, e416, hx416_0⟩ := Kd.at_string HR0_1.out x5_1 p416 q416
        cases e416
        replace hx416_0 := (HB.out.cell (World.block_lt_of_cell? w _ hx416_0)).trans hx416_0
        replace p416 := eq_true p416
        replace q416 := eq_true q416
        have hcz15_0 : wr.cell? ⟨gb415, 0, none⟩ = some (.string a1_0) := (blk_cell BK415.out 0).trans rfl
        have hcz15_1 : wr.cell? ⟨gb415, 1, none⟩ = some (.slice A1_1 l1_1.length c1_1) := (blk_cell BK415.out 1).trans rfl
        have hcz15_2 : wr.cell? ⟨gb415, 2, none⟩ = some (.string a1_2) := (blk_cell BK415.out 2).trans rfl
        have hcz15_3 : wr.cell? ⟨gb415, 3, none⟩ = some (.int .u64 a1_3) := (blk_cell BK415.out 3).trans rfl
        have hcz15_4 : wr.cell? ⟨gb415, 4, none⟩ = some (.string a1_4) := (blk_cell BK415.out 4).trans rfl
        have hfz15_0 := blk_frozen BK415.out 0
        have hfz15_1 := blk_frozen BK415.out 1
        have hfz15_2 := blk_frozen BK415.out 2
        have hfz15_3 := blk_frozen BK415.out 3
        have hfz15_4 := blk_frozen BK415.out 4
        have p417 : 0 ≤ (x5_1 : Int) := of_decide_eq_true (by first | (with_reducible assumption) | assumption)
        have q417 : x5_1 < (l1_1.length : Int) := of_decide_eq_true (by first | (with_reducible assumption) | assumption)
        obtain ⟨ad417, e417, hx417_0⟩ := Kd.at_string HR1_1.out x5_1 p417 q417
        cases e417
        replace hx417_0 := (HB.out.cell (World.block_lt_of_cell? w _ hx417_0)).trans hx417_0
        replace p417 := eq_true p417
        replace q417 := eq_true q417
        go_wp2
        repeat (go_quiet (fail); try go_wp2)
        go_roundg k1
        case measure => have := HK1.out; omega
        case rel => exact ⟨(wrap64 (x5_1 + 1)), (by first | rfl | (simp; done) | (simp [*]; done)), H', ⟨by have := HK1.out; omega⟩, ⟨by (with_reducible repeat (first | refine blk_drewN ?_ _ | refine blk_drew ?_ | refine blk_alloc ?_ _)); exact BK414.out⟩, ⟨by (with_reducible repeat (first | refine blk_drewN ?_ _ | refine blk_drew ?_ | refine blk_alloc ?_ _)); exact BK415.out⟩, ⟨by repeat (first | (with_reducible first | exact HB.out | apply below_alloc | apply pw_below_drewN | apply below_drew1 | refine below_set ?_ GE414.out | refine below_set ?_ GE415.out) | exact HB.out)⟩⟩
       ·
        rw [if_neg c12] at H
        have c12b0 : ((rdOf ByteArray.empty l0_1 x5_1).toList == (rdOf ByteArray.empty l1_1 x5_1).toList) = false := beq_eq_false_iff_ne.mpr c12
        have c12b1 : ((rdOf ByteArray.empty l0_1 x5_1).toList != (rdOf ByteArray.empty l1_1 x5_1).toList) = true := bne_iff_ne.mpr c12
        obtain rfl := Option.some.inj H
        have hnb16 := NB414_415.out
        have hnc16 := NB415_414.out
        have hcz17_0 : wr.cell? ⟨gb414, 0, none⟩ = some (.string a0_0) := (blk_cell BK414.out 0).trans rfl
        have hcz17_1 : wr.cell? ⟨gb414, 1, none⟩ = some (.slice A0_1 l0_1.length c0_1) := (blk_cell BK414.out 1).trans rfl
        have hcz17_2 : wr.cell? ⟨gb414, 2, none⟩ = some (.string a0_2) := (blk_cell BK414.out 2).trans rfl
        have hcz17_3 : wr.cell? ⟨gb414, 3, none⟩ = some (.int .u64 a0_3) := (blk_cell BK414.out 3).trans rfl
        have hcz17_4 : wr.cell? ⟨gb414, 4, none⟩ = some (.string a0_4) := (blk_cell BK414.out 4).trans rfl
        have hfz17_0 := blk_frozen BK414.out 0
        have hfz17_1 := blk_frozen BK414.out 1
        have hfz17_2 := blk_frozen BK414.out 2
        have hfz17_3 := blk_frozen BK414.out 3
        have hfz17_4 := blk_frozen BK414.out 4
        have p416 : 0 ≤ (x5_1 : Int) := of_decide_eq_true (by first | (with_reducible assumption) | assumption)
        have q416 : x5_1 < (l0_1.length : Int) := of_decide_eq_true (by first | (with_reducible assumption) | assumption)
        obtain ⟨ad416, e416, hx416_0⟩ := Kd.at_string HR0_1.out x5_1 p416 q416
        cases e416
        replace hx416_0 := (HB.out.cell (World.block_lt_of_cell? w _ hx416_0)).trans hx416_0
        replace p416 := eq_true p416
        replace q416 := eq_true q416
        have hcz18_0 : wr.cell? ⟨gb415, 0, none⟩ = some (.string a1_0) := (blk_cell BK415.out 0).trans rfl
        have hcz18_1 : wr.cell? ⟨gb415, 1, none⟩ = some (.slice A1_1 l1_1.length c1_1) := (blk_cell BK415.out 1).trans rfl
        have hcz18_2 : wr.cell? ⟨gb415, 2, none⟩ = some (.string a1_2) := (blk_cell BK415.out 2).trans rfl
        have hcz18_3 : wr.cell? ⟨gb415, 3, none⟩ = some (.int .u64 a1_3) := (blk_cell BK415.out 3).trans rfl
        have hcz18_4 : wr.cell? ⟨gb415, 4, none⟩ = some (.string a1_4) := (blk_cell BK415.out 4).trans rfl
        have hfz18_0 := blk_frozen BK415.out 0
        have hfz18_1 := blk_frozen BK415.out 1
        have hfz18_2 := blk_frozen BK415.out 2
        have hfz18_3 := blk_frozen BK415.out 3
        have hfz18_4 := blk_frozen BK415.out 4
        have p417 : 0 ≤ (x5_1 : Int) := of_decide_eq_true (by first | (with_reducible assumption) | assumption)
        have q417 : x5_1 < (l1_1.length : Int) := of_decide_eq_true (by first | (with_reducible assumption) | assumption)
        obtain ⟨ad417, e417, hx417_0⟩ := Kd.at_string HR1_1.out x5_1 p417 q417
        cases e417
        replace hx417_0 := (HB.out.cell (World.block_lt_of_cell? w _ hx417_0)).trans hx417_0
        replace p417 := eq_true p417
        replace q417 := eq_true q417
        go_wp2
        repeat (go_quiet (fail); try go_wp2)
        go_ret
        exact ⟨by first | rfl | (simp [errW_none, errW_some] <;> rfl) | (simp [*, errW_none, errW_some] <;> rfl), by repeat (first | (with_reducible first | exact HB.out | apply below_alloc | apply pw_below_drewN | apply below_drew1 | refine below_set ?_ GE414.out | refine below_set ?_ GE415.out) | exact HB.out)⟩
      · rw [if_neg c11] at H
        exact absurd H (by simp)
     · rw [if_neg c10] at H
       exact absurd H (by simp)
    ·
     rw [if_neg c9] at H
     have c9b0 : decide (x5_1 < (l0_1.length : Int)) = false := decide_eq_false c9
     clear c9
     by_cases c19 : a0_0.toList = a1_0.toList
     ·
      rw [if_pos c19] at H
      have c19b0 : (a0_0.toList == a1_0.toList) = true := beq_iff_eq.mpr c19
      have c19b1 : (a0_0.toList != a1_0.toList) = false := bne_eq_false_iff_eq.mpr c19
      clear c19
      by_cases c20 : a0_2.toList = a1_2.toList
      ·
       rw [if_pos c20] at H
       have c20b0 : (a0_2.toList == a1_2.toList) = true := beq_iff_eq.mpr c20
       have c20b1 : (a0_2.toList != a1_2.toList) = false := bne_eq_false_iff_eq.mpr c20
       clear c20
       by_cases c21 : a0_3 = a1_3
       ·
        rw [if_pos c21] at H
        have c21b0 : (a0_3 == a1_3) = true := beq_iff_eq.mpr c21
        have c21b1 : (a0_3 != a1_3) = false := bne_eq_false_iff_eq.mpr c21
        clear c21
        obtain rfl := Option.some.inj H
        have hnb22 := NB414_415.out
        have hnc22 := NB415_414.out
        have hcz23_0 : wr.cell? ⟨gb414, 0, none⟩ = some (.string a0_0) := (blk_cell BK414.out 0).trans rfl
        have hcz23_1 : wr.cell? ⟨gb414, 1, none⟩ = some (.slice A0_1 l0_1.length c0_1) := (blk_cell BK414.out 1).trans rfl
        have hcz23_2 : wr.cell? ⟨gb414, 2, none⟩ = some (.string a0_2) := (blk_cell BK414.out 2).trans rfl
        have hcz23_3 : wr.cell? ⟨gb414, 3, none⟩ = some (.int .u64 a0_3) := (blk_cell BK414.out 3).trans rfl
        have hcz23_4 : wr.cell? ⟨gb414, 4, none⟩ = some (.string a0_4) := (blk_cell BK414.out 4).trans rfl
        have hfz23_0 := blk_frozen BK414.out 0
        have hfz23_1 := blk_frozen BK414.out 1
        have hfz23_2 := blk_frozen BK414.out 2
        have hfz23_3 := blk_frozen BK414.out 3
        have hfz23_4 := blk_frozen BK414.out 4
        have hcz24_0 : wr.cell? ⟨gb415, 0, none⟩ = some (.string a1_0) := (blk_cell BK415.out 0).trans rfl
        have hcz24_1 : wr.cell? ⟨gb415, 1, none⟩ = some (.slice A1_1 l1_1.length c1_1) := (blk_cell BK415.out 1).trans rfl
        have hcz24_2 : wr.cell? ⟨gb415, 2, none⟩ = some (.string a1_2) := (blk_cell BK415.out 2).trans rfl
        have hcz24_3 : wr.cell? ⟨gb415, 3, none⟩ = some (.int .u64 a1_3) := (blk_cell BK415.out 3).trans rfl
        have hcz24_4 : wr.cell? ⟨gb415, 4, none⟩ = some (.string a1_4) := (blk_cell BK415.out 4).trans rfl
        have hfz24_0 := blk_frozen BK415.out 0
        have hfz24_1 := blk_frozen BK415.out 1
        have hfz24_2 := blk_frozen BK415.out 2
        have hfz24_3 := blk_frozen BK415.out 3
        have hfz24_4 := blk_frozen BK415.out 4
        go_wp2
        repeat (go_quiet (fail); try go_wp2)
        go_ret
        exact ⟨by first | rfl | (simp [errW_none, errW_some] <;> rfl) | (simp [*, errW_none, errW_some] <;> rfl), by repeat (first | (with_reducible first | exact HB.out | apply below_alloc | apply pw_below_drewN | apply below_drew1 | refine below_set ?_ GE414.out | refine below_set ?_ GE415.out) | exact HB.out)⟩
       ·
        rw [if_neg c21] at H
        have c21b0 : (a0_3 == a1_3) = false := beq_eq_false_iff_ne.mpr c21
        have c21b1 : (a0_3 != a1_3) = true := bne_iff_ne.mpr c21
        obtain rfl := Option.some.inj H
        have hnb25 := NB414_415.out
        have hnc25 := NB415_414.out
        have hcz26_0 : wr.cell? ⟨gb414, 0, none⟩ = some (.string a0_0) := (blk_cell BK414.out 0).trans rfl
        have hcz26_1 : wr.cell? ⟨gb414, 1, none⟩ = some (.slice A0_1 l0_1.length c0_1) := (blk_cell BK414.out 1).trans rfl
        have hcz26_2 : wr.cell? ⟨gb414, 2, none⟩ = some (.string a0_2) := (blk_cell BK414.out 2).trans rfl
        have hcz26_3 : wr.cell? ⟨gb414, 3, none⟩ = some (.int .u64 a0_3) := (blk_cell BK414.out 3).trans rfl
        have hcz26_4 : wr.cell? ⟨gb414, 4, none⟩ = some (.string a0_4) := (blk_cell BK414.out 4).trans rfl
        have hfz26_0 := blk_frozen BK414.out 0
        have hfz26_1 := blk_frozen BK414.out 1
        have hfz26_2 := blk_frozen BK414.out 2
        have hfz26_3 := blk_frozen BK414.out 3
        have hfz26_4 := blk_frozen BK414.out 4
        have hcz27_0 : wr.cell? ⟨gb415, 0, none⟩ = some (.string a1_0) := (blk_cell BK415.out 0).trans rfl
        have hcz27_1 : wr.cell? ⟨gb415, 1, none⟩ = some (.slice A1_1 l1_1.length c1_1) := (blk_cell BK415.out 1).trans rfl
        have hcz27_2 : wr.cell? ⟨gb415, 2, none⟩ = some (.string a1_2) := (blk_cell BK415.out 2).trans rfl
        have hcz27_3 : wr.cell? ⟨gb415, 3, none⟩ = some (.int .u64 a1_3) := (blk_cell BK415.out 3).trans rfl
        have hcz27_4 : wr.cell? ⟨gb415, 4, none⟩ = some (.string a1_4) := (blk_cell BK415.out 4).trans rfl
        have hfz27_0 := blk_frozen BK415.out 0
        have hfz27_1 := blk_frozen BK415.out 1
        have hfz27_2 := blk_frozen BK415.out 2
        have hfz27_3 := blk_frozen BK415.out 3
        have hfz27_4 := blk_frozen BK415.out 4
        go_wp2
        repeat (go_quiet (fail); try go_wp2)
        go_ret
        exact ⟨by first | rfl | (simp [errW_none, errW_some] <;> rfl) | (simp [*, errW_none, errW_some] <;> rfl), by repeat (first | (with_reducible first | exact HB.out | apply below_alloc | apply pw_below_drewN | apply below_drew1 | refine below_set ?_ GE414.out | refine below_set ?_ GE415.out) | exact HB.out)⟩
      ·
       rw [if_neg c20] at H
       have c20b0 : (a0_2.toList == a1_2.toList) = false := beq_eq_false_iff_ne.mpr c20
       have c20b1 : (a0_2.toList != a1_2.toList) = true := bne_iff_ne.mpr c20
       obtain rfl := Option.some.inj H
       have hnb28 := NB414_415.out
       have hnc28 := NB415_414.out
       have hcz29_0 : wr.cell? ⟨gb414, 0, none⟩ = some (.string a0_0) := (blk_cell BK414.out 0).trans rfl
       have hcz29_1 : wr.cell? ⟨gb414, 1, none⟩ = some (.slice A0_1 l0_1.length c0_1) := (blk_cell BK414.out 1).trans rfl
       have hcz29_2 : wr.cell? ⟨gb414, 2, none⟩ = some (.string a0_2) := (blk_cell BK414.out 2).trans rfl
       have hcz29_3 : wr.cell? ⟨gb414, 3, none⟩ = some (.int .u64 a0_3) := (blk_cell BK414.out 3).trans rfl
       have hcz29_4 : wr.cell? ⟨gb414, 4, none⟩ = some (.string a0_4) := (blk_cell BK414.out 4).trans rfl
       have hfz29_0 := blk_frozen BK414.out 0
       have hfz29_1 := blk_frozen BK414.out 1
       have hfz29_2 := blk_frozen BK414.out 2
       have hfz29_3 := blk_frozen BK414.out 3
       have hfz29_4 := blk_frozen BK414.out 4
       have hcz30_0 : wr.cell? ⟨gb415, 0, none⟩ = some (.string a1_0) := (blk_cell BK415.out 0).trans rfl
       have hcz30_1 : wr.cell? ⟨gb415, 1, none⟩ = some (.slice A1_1 l1_1.length c1_1) := (blk_cell BK415.out 1).trans rfl
       have hcz30_2 : wr.cell? ⟨gb415, 2, none⟩ = some (.string a1_2) := (blk_cell BK415.out 2).trans rfl
       have hcz30_3 : wr.cell? ⟨gb415, 3, none⟩ = some (.int .u64 a1_3) := (blk_cell BK415.out 3).trans rfl
       have hcz30_4 : wr.cell? ⟨gb415, 4, none⟩ = some (.string a1_4) := (blk_cell BK415.out 4).trans rfl
       have hfz30_0 := blk_frozen BK415.out 0
       have hfz30_1 := blk_frozen BK415.out 1
       have hfz30_2 := blk_frozen BK415.out 2
       have hfz30_3 := blk_frozen BK415.out 3
       have hfz30_4 := blk_frozen BK415.out 4
       go_wp2
       repeat (go_quiet (fail); try go_wp2)
       go_ret
       exact ⟨by first | rfl | (simp [errW_none, errW_some] <;> rfl) | (simp [*, errW_none, errW_some] <;> rfl), by repeat (first | (with_reducible first | exact HB.out | apply below_alloc | apply pw_below_drewN | apply below_drew1 | refine below_set ?_ GE414.out | refine below_set ?_ GE415.out) | exact HB.out)⟩
     ·
      rw [if_neg c19] at H
      have c19b0 : (a0_0.toList == a1_0.toList) = false := beq_eq_false_iff_ne.mpr c19
      have c19b1 : (a0_0.toList != a1_0.toList) = true := bne_iff_ne.mpr c19
      obtain rfl := Option.some.inj H
      have hnb31 := NB414_415.out
      have hnc31 := NB415_414.out
      have hcz32_0 : wr.cell? ⟨gb414, 0, none⟩ = some (.string a0_0) := (blk_cell BK414.out 0).trans rfl
      have hcz32_1 : wr.cell? ⟨gb414, 1, none⟩ = some (.slice A0_1 l0_1.length c0_1) := (blk_cell BK414.out 1).trans rfl
      have hcz32_2 : wr.cell? ⟨gb414, 2, none⟩ = some (.string a0_2) := (blk_cell BK414.out 2).trans rfl
      have hcz32_3 : wr.cell? ⟨gb414, 3, none⟩ = some (.int .u64 a0_3) := (blk_cell BK414.out 3).trans rfl
      have hcz32_4 : wr.cell? ⟨gb414, 4, none⟩ = some (.string a0_4) := (blk_cell BK414.out 4).trans rfl
      have hfz32_0 := blk_frozen BK414.out 0
      have hfz32_1 := blk_frozen BK414.out 1
      have hfz32_2 := blk_frozen BK414.out 2
      have hfz32_3 := blk_frozen BK414.out 3
      have hfz32_4 := blk_frozen BK414.out 4
      have hcz33_0 : wr.cell? ⟨gb415, 0, none⟩ = some (.string a1_0) := (blk_cell BK415.out 0).trans rfl
      have hcz33_1 : wr.cell? ⟨gb415, 1, none⟩ = some (.slice A1_1 l1_1.length c1_1) := (blk_cell BK415.out 1).trans rfl
      have hcz33_2 : wr.cell? ⟨gb415, 2, none⟩ = some (.string a1_2) := (blk_cell BK415.out 2).trans rfl
      have hcz33_3 : wr.cell? ⟨gb415, 3, none⟩ = some (.int .u64 a1_3) := (blk_cell BK415.out 3).trans rfl
      have hcz33_4 : wr.cell? ⟨gb415, 4, none⟩ = some (.string a1_4) := (blk_cell BK415.out 4).trans rfl
      have hfz33_0 := blk_frozen BK415.out 0
      have hfz33_1 := blk_frozen BK415.out 1
      have hfz33_2 := blk_frozen BK415.out 2
      have hfz33_3 := blk_frozen BK415.out 3
      have hfz33_4 := blk_frozen BK415.out 4
      go_wp2
      repeat (go_quiet (fail); try go_wp2)
      go_ret
      exact ⟨by first | rfl | (simp [errW_none, errW_some] <;> rfl) | (simp [*, errW_none, errW_some] <;> rfl), by repeat (first | (with_reducible first | exact HB.out | apply below_alloc | apply pw_below_drewN | apply below_drew1 | refine below_set ?_ GE414.out | refine below_set ?_ GE415.out) | exact HB.out)⟩
 · rw [if_neg c3] at H
   have c3b0 : ((l0_1.length : Int) == (l1_1.length : Int)) = false := beq_eq_false_iff_ne.mpr c3
   have c3b1 : ((l0_1.length : Int) != (l1_1.length : Int)) = true := bne_iff_ne.mpr c3
   have c3b2 : (l0_1.length == l1_1.length) = false := by first | simpa using c3 | (simp at c3 ⊢; omega)
   obtain rfl := Option.some.inj H
   go_enter Tryd.func10, Tryd.ntmps10
   go_wp2_with (first | ((with_reducible refine gate_dst (N := 2) rfl ?_); refine box_event ?hg (N := 2) ?hd (cs := #[.string a0_0, .slice A0_1 l0_1.length c0_1, .string a0_2, .int .u64 a0_3, .string a0_4]) (t := 25) ?hr ?_; (case hd => rfl); (case hg => rfl); (case hr => first | (go_simp; done) | (go_simp; rfl) | (go_simp; simp only [show ∀ x_ : Int, IntKind.u8.wrap x_ = x_ % 256 from fun _ => rfl, Int.add_emod_emod, Int.emod_add_emod, Int.emod_emod]; done)); intro gb414 hg w34 hbox hb; have n0_ := Aside0.mk (below_step (by repeat (first | (with_reducible first | exact HB.out | apply below_alloc | apply pw_below_drewN | apply below_drew1) | exact HB.out)) hb); have n1_ := Aside0.mk (hbox); have n2_ := Aside0.mk ((by rw [hg]; exact (below_size (by repeat (first | (with_reducible first | exact HB.out | apply below_alloc | apply pw_below_drewN | apply below_drew1) | exact HB.out))) : w.heap.size ≤ gb414)); have n3_ := Aside0.mk ((by rw [hg]; exact (below_size (by repeat (first | (with_reducible first | exact HB.out | apply below_alloc | apply pw_below_drewN | apply below_drew1) | exact HB.out))) : w.heap.size ≤ gb414)); clear HB; have HB := n0_; have BK414 := n1_; have GW414 := n2_; have GE414 := n3_; clear n0_ n1_ n2_ n3_; clear hb hbox hg) | ((with_reducible refine gate_dst (N := 3) rfl ?_); refine box_event ?hg (N := 3) ?hd (cs := #[.string a1_0, .slice A1_1 l1_1.length c1_1, .string a1_2, .int .u64 a1_3, .string a1_4]) (t := 30) ?hr ?_; (case hd => rfl); (case hg => rfl); (case hr => first | (go_simp; done) | (go_simp; rfl) | (go_simp; simp only [show ∀ x_ : Int, IntKind.u8.wrap x_ = x_ % 256 from fun _ => rfl, Int.add_emod_emod, Int.emod_add_emod, Int.emod_emod]; done)); intro gb415 hg w35 hbox hb; have n0_ := Aside0.mk (blk_below (g := gb414) (o := .cells #[.string a0_0, .slice A0_1 l0_1.length c0_1, .string a0_2, .int .u64 a0_3, .string a0_4] 25 (0, 0)) (by (with_reducible repeat (first | refine blk_drewN ?_ _ | refine blk_drew ?_ | refine blk_alloc ?_ _)); exact BK414.out) hb); have n1_ := Aside0.mk (below_step (by repeat (first | (with_reducible first | exact HB.out | apply below_alloc | apply pw_below_drewN | apply below_drew1 | refine below_set ?_ GE414.out) | exact HB.out)) hb); have n2_ := Aside0.mk (hbox); have n3_ := Aside0.mk ((by rw [hg]; exact (below_size (by repeat (first | (with_reducible first | exact HB.out | apply below_alloc | apply pw_below_drewN | apply below_drew1 | refine below_set ?_ GE414.out) | exact HB.out))) : w.heap.size ≤ gb415)); have n4_ := Aside0.mk ((by rw [hg]; exact (below_size (by repeat (first | (with_reducible first | exact HB.out | apply below_alloc | apply pw_below_drewN | apply below_drew1 | refine below_set ?_ GE414.out) | exact HB.out))) : w.heap.size ≤ gb415)); have n5_ := Aside0.mk ((by rw [hg]; exact Nat.ne_of_lt (blk_lt (g := gb414) (o := .cells #[.string a0_0, .slice A0_1 l0_1.length c0_1, .string a0_2, .int .u64 a0_3, .string a0_4] 25 (0, 0)) (by (with_reducible repeat (first | refine blk_drewN ?_ _ | refine blk_drew ?_ | refine blk_alloc ?_ _)); exact BK414.out)) : gb414 ≠ gb415)); have n6_ := Aside0.mk ((by rw [hg]; exact Nat.ne_of_gt (blk_lt (g := gb414) (o := .cells #[.string a0_0, .slice A0_1 l0_1.length c0_1, .string a0_2, .int .u64 a0_3, .string a0_4] 25 (0, 0)) (by (with_reducible repeat (first | refine blk_drewN ?_ _ | refine blk_drew ?_ | refine blk_alloc ?_ _)); exact BK414.out)) : gb415 ≠ gb414)); clear BK414; clear HB; have BK414 := n0_; have HB := n1_; have BK415 := n2_; have GW415 := n3_; have GE415 := n4_; have NB414_415 := n5_; have NB415_414 := n6_; clear n0_ n1_ n2_ n3_ n4_ n5_ n6_; clear hb hbox hg; have hnb36 := NB414_415.out; have hnc36 := NB415_414.out; have hcz37_0 : w35.cell? ⟨gb414, 0, none⟩ = some (.string a0_0) := (blk_cell BK414.out 0).trans rfl; have hcz37_1 : w35.cell? ⟨gb414, 1, none⟩ = some (.slice A0_1 l0_1.length c0_1) := (blk_cell BK414.out 1).trans rfl; have hcz37_2 : w35.cell? ⟨gb414, 2, none⟩ = some (.string a0_2) := (blk_cell BK414.out 2).trans rfl; have hcz37_3 : w35.cell? ⟨gb414, 3, none⟩ = some (.int .u64 a0_3) := (blk_cell BK414.out 3).trans rfl; have hcz37_4 : w35.cell? ⟨gb414, 4, none⟩ = some (.string a0_4) := (blk_cell BK414.out 4).trans rfl; have hfz37_0 := blk_frozen BK414.out 0; have hfz37_1 := blk_frozen BK414.out 1; have hfz37_2 := blk_frozen BK414.out 2; have hfz37_3 := blk_frozen BK414.out 3; have hfz37_4 := blk_frozen BK414.out 4; have hcz38_0 : w35.cell? ⟨gb415, 0, none⟩ = some (.string a1_0) := (blk_cell BK415.out 0).trans rfl; have hcz38_1 : w35.cell? ⟨gb415, 1, none⟩ = some (.slice A1_1 l1_1.length c1_1) := (blk_cell BK415.out 1).trans rfl; have hcz38_2 : w35.cell? ⟨gb415, 2, none⟩ = some (.string a1_2) := (blk_cell BK415.out 2).trans rfl; have hcz38_3 : w35.cell? ⟨gb415, 3, none⟩ = some (.int .u64 a1_3) := (blk_cell BK415.out 3).trans rfl; have hcz38_4 : w35.cell? ⟨gb415, 4, none⟩ = some (.string a1_4) := (blk_cell BK415.out 4).trans rfl; have hfz38_0 := blk_frozen BK415.out 0; have hfz38_1 := blk_frozen BK415.out 1; have hfz38_2 := blk_frozen BK415.out 2; have hfz38_3 := blk_frozen BK415.out 3; have hfz38_4 := blk_frozen BK415.out 4))
   repeat (go_quiet (first | ((with_reducible refine gate_dst (N := 2) rfl ?_); refine box_event ?hg (N := 2) ?hd (cs := #[.string a0_0, .slice A0_1 l0_1.length c0_1, .string a0_2, .int .u64 a0_3, .string a0_4]) (t := 25) ?hr ?_; (case hd => rfl); (case hg => rfl); (case hr => first | (go_simp; done) | (go_simp; rfl) | (go_simp; simp only [show ∀ x_ : Int, IntKind.u8.wrap x_ = x_ % 256 from fun _ => rfl, Int.add_emod_emod, Int.emod_add_emod, Int.emod_emod]; done)); intro gb414 hg w34 hbox hb; have n0_ := Aside0.mk (below_step (by repeat (first | (with_reducible first | exact HB.out | apply below_alloc | apply pw_below_drewN | apply below_drew1) | exact HB.out)) hb); have n1_ := Aside0.mk (hbox); have n2_ := Aside0.mk ((by rw [hg]; exact (below_size (by repeat (first | (with_reducible first | exact HB.out | apply below_alloc | apply pw_below_drewN | apply below_drew1) | exact HB.out))) : w.heap.size ≤ gb414)); have n3_ := Aside0.mk ((by rw [hg]; exact (below_size (by repeat (first | (with_reducible first | exact HB.out | apply below_alloc | apply pw_below_drewN | apply below_drew1) | exact HB.out))) : w.heap.size ≤ gb414)); clear HB; have HB := n0_; have BK414 := n1_; have GW414 := n2_; have GE414 := n3_; clear n0_ n1_ n2_ n3_; clear hb hbox hg) | ((with_reducible refine gate_dst (N := 3) rfl ?_); refine box_event ?hg (N := 3) ?hd (cs := #[.string a1_0, .slice A1_1 l1_1.length c1_1, .string a1_2, .int .u64 a1_3, .string a1_4]) (t := 30) ?hr ?_; (case hd => rfl); (case hg => rfl); (case hr => first | (go_simp; done) | (go_simp; rfl) | (go_simp; simp only [show ∀ x_ : Int, IntKind.u8.wrap x_ = x_ % 256 from fun _ => rfl, Int.add_emod_emod, Int.emod_add_emod, Int.emod_emod]; done)); intro gb415 hg w35 hbox hb; have n0_ := Aside0.mk (blk_below (g := gb414) (o := .cells #[.string a0_0, .slice A0_1 l0_1.length c0_1, .string a0_2, .int .u64 a0_3, .string a0_4] 25 (0, 0)) (by (with_reducible repeat (first | refine blk_drewN ?_ _ | refine blk_drew ?_ | refine blk_alloc ?_ _)); exact BK414.out) hb); have n1_ := Aside0.mk (below_step (by repeat (first | (with_reducible first | exact HB.out | apply below_alloc | apply pw_below_drewN | apply below_drew1 | refine below_set ?_ GE414.out) | exact HB.out)) hb); have n2_ := Aside0.mk (hbox); have n3_ := Aside0.mk ((by rw [hg]; exact (below_size (by repeat (first | (with_reducible first | exact HB.out | apply below_alloc | apply pw_below_drewN | apply below_drew1 | refine below_set ?_ GE414.out) | exact HB.out))) : w.heap.size ≤ gb415)); have n4_ := Aside0.mk ((by rw [hg]; exact (below_size (by repeat (first | (with_reducible first | exact HB.out | apply below_alloc | apply pw_below_drewN | apply below_drew1 | refine below_set ?_ GE414.out) | exact HB.out))) : w.heap.size ≤ gb415)); have n5_ := Aside0.mk ((by rw [hg]; exact Nat.ne_of_lt (blk_lt (g := gb414) (o := .cells #[.string a0_0, .slice A0_1 l0_1.length c0_1, .string a0_2, .int .u64 a0_3, .string a0_4] 25 (0, 0)) (by (with_reducible repeat (first | refine blk_drewN ?_ _ | refine blk_drew ?_ | refine blk_alloc ?_ _)); exact BK414.out)) : gb414 ≠ gb415)); have n6_ := Aside0.mk ((by rw [hg]; exact Nat.ne_of_gt (blk_lt (g := gb414) (o := .cells #[.string a0_0, .slice A0_1 l0_1.length c0_1, .string a0_2, .int .u64 a0_3, .string a0_4] 25 (0, 0)) (by (with_reducible repeat (first | refine blk_drewN ?_ _ | refine blk_drew ?_ | refine blk_alloc ?_ _)); exact BK414.out)) : gb415 ≠ gb414)); clear BK414; clear HB; have BK414 := n0_; have HB := n1_; have BK415 := n2_; have GW415 := n3_; have GE415 := n4_; have NB414_415 := n5_; have NB415_414 := n6_; clear n0_ n1_ n2_ n3_ n4_ n5_ n6_; clear hb hbox hg; have hnb36 := NB414_415.out; have hnc36 := NB415_414.out; have hcz37_0 : w35.cell? ⟨gb414, 0, none⟩ = some (.string a0_0) := (blk_cell BK414.out 0).trans rfl; have hcz37_1 : w35.cell? ⟨gb414, 1, none⟩ = some (.slice A0_1 l0_1.length c0_1) := (blk_cell BK414.out 1).trans rfl; have hcz37_2 : w35.cell? ⟨gb414, 2, none⟩ = some (.string a0_2) := (blk_cell BK414.out 2).trans rfl; have hcz37_3 : w35.cell? ⟨gb414, 3, none⟩ = some (.int .u64 a0_3) := (blk_cell BK414.out 3).trans rfl; have hcz37_4 : w35.cell? ⟨gb414, 4, none⟩ = some (.string a0_4) := (blk_cell BK414.out 4).trans rfl; have hfz37_0 := blk_frozen BK414.out 0; have hfz37_1 := blk_frozen BK414.out 1; have hfz37_2 := blk_frozen BK414.out 2; have hfz37_3 := blk_frozen BK414.out 3; have hfz37_4 := blk_frozen BK414.out 4; have hcz38_0 : w35.cell? ⟨gb415, 0, none⟩ = some (.string a1_0) := (blk_cell BK415.out 0).trans rfl; have hcz38_1 : w35.cell? ⟨gb415, 1, none⟩ = some (.slice A1_1 l1_1.length c1_1) := (blk_cell BK415.out 1).trans rfl; have hcz38_2 : w35.cell? ⟨gb415, 2, none⟩ = some (.string a1_2) := (blk_cell BK415.out 2).trans rfl; have hcz38_3 : w35.cell? ⟨gb415, 3, none⟩ = some (.int .u64 a1_3) := (blk_cell BK415.out 3).trans rfl; have hcz38_4 : w35.cell? ⟨gb415, 4, none⟩ = some (.string a1_4) := (blk_cell BK415.out 4).trans rfl; have hfz38_0 := blk_frozen BK415.out 0; have hfz38_1 := blk_frozen BK415.out 1; have hfz38_2 := blk_frozen BK415.out 2; have hfz38_3 := blk_frozen BK415.out 3; have hfz38_4 := blk_frozen BK415.out 4)); try go_wp2_with (first | ((with_reducible refine gate_dst (N := 2) rfl ?_); refine box_event ?hg (N := 2) ?hd (cs := #[.string a0_0, .slice A0_1 l0_1.length c0_1, .string a0_2, .int .u64 a0_3, .string a0_4]) (t := 25) ?hr ?_; (case hd => rfl); (case hg => rfl); (case hr => first | (go_simp; done) | (go_simp; rfl) | (go_simp; simp only [show ∀ x_ : Int, IntKind.u8.wrap x_ = x_ % 256 from fun _ => rfl, Int.add_emod_emod, Int.emod_add_emod, Int.emod_emod]; done)); intro gb414 hg w34 hbox hb; have n0_ := Aside0.mk (below_step (by repeat (first | (with_reducible first | exact HB.out | apply below_alloc | apply pw_below_drewN | apply below_drew1) | exact HB.out)) hb); have n1_ := Aside0.mk (hbox); have n2_ := Aside0.mk ((by rw [hg]; exact (below_size (by repeat (first | (with_reducible first | exact HB.out | apply below_alloc | apply pw_below_drewN | apply below_drew1) | exact HB.out))) : w.heap.size ≤ gb414)); have n3_ := Aside0.mk ((by rw [hg]; exact (below_size (by repeat (first | (with_reducible first | exact HB.out | apply below_alloc | apply pw_below_drewN | apply below_drew1) | exact HB.out))) : w.heap.size ≤ gb414)); clear HB; have HB := n0_; have BK414 := n1_; have GW414 := n2_; have GE414 := n3_; clear n0_ n1_ n2_ n3_; clear hb hbox hg) | ((with_reducible refine gate_dst (N := 3) rfl ?_); refine box_event ?hg (N := 3) ?hd (cs := #[.string a1_0, .slice A1_1 l1_1.length c1_1, .string a1_2, .int .u64 a1_3, .string a1_4]) (t := 30) ?hr ?_; (case hd => rfl); (case hg => rfl); (case hr => first | (go_simp; done) | (go_simp; rfl) | (go_simp; simp only [show ∀ x_ : Int, IntKind.u8.wrap x_ = x_ % 256 from fun _ => rfl, Int.add_emod_emod, Int.emod_add_emod, Int.emod_emod]; done)); intro gb415 hg w35 hbox hb; have n0_ := Aside0.mk (blk_below (g := gb414) (o := .cells #[.string a0_0, .slice A0_1 l0_1.length c0_1, .string a0_2, .int .u64 a0_3, .string a0_4] 25 (0, 0)) (by (with_reducible repeat (first | refine blk_drewN ?_ _ | refine blk_drew ?_ | refine blk_alloc ?_ _)); exact BK414.out) hb); have n1_ := Aside0.mk (below_step (by repeat (first | (with_reducible first | exact HB.out | apply below_alloc | apply pw_below_drewN | apply below_drew1 | refine below_set ?_ GE414.out) | exact HB.out)) hb); have n2_ := Aside0.mk (hbox); have n3_ := Aside0.mk ((by rw [hg]; exact (below_size (by repeat (first | (with_reducible first | exact HB.out | apply below_alloc | apply pw_below_drewN | apply below_drew1 | refine below_set ?_ GE414.out) | exact HB.out))) : w.heap.size ≤ gb415)); have n4_ := Aside0.mk ((by rw [hg]; exact (below_size (by repeat (first | (with_reducible first | exact HB.out | apply below_alloc | apply pw_below_drewN | apply below_drew1 | refine below_set ?_ GE414.out) | exact HB.out))) : w.heap.size ≤ gb415)); have n5_ := Aside0.mk ((by rw [hg]; exact Nat.ne_of_lt (blk_lt (g := gb414) (o := .cells #[.string a0_0, .slice A0_1 l0_1.length c0_1, .string a0_2, .int .u64 a0_3, .string a0_4] 25 (0, 0)) (by (with_reducible repeat (first | refine blk_drewN ?_ _ | refine blk_drew ?_ | refine blk_alloc ?_ _)); exact BK414.out)) : gb414 ≠ gb415)); have n6_ := Aside0.mk ((by rw [hg]; exact Nat.ne_of_gt (blk_lt (g := gb414) (o := .cells #[.string a0_0, .slice A0_1 l0_1.length c0_1, .string a0_2, .int .u64 a0_3, .string a0_4] 25 (0, 0)) (by (with_reducible repeat (first | refine blk_drewN ?_ _ | refine blk_drew ?_ | refine blk_alloc ?_ _)); exact BK414.out)) : gb415 ≠ gb414)); clear BK414; clear HB; have BK414 := n0_; have HB := n1_; have BK415 := n2_; have GW415 := n3_; have GE415 := n4_; have NB414_415 := n5_; have NB415_414 := n6_; clear n0_ n1_ n2_ n3_ n4_ n5_ n6_; clear hb hbox hg; have hnb36 := NB414_415.out; have hnc36 := NB415_414.out; have hcz37_0 : w35.cell? ⟨gb414, 0, none⟩ = some (.string a0_0) := (blk_cell BK414.out 0).trans rfl; have hcz37_1 : w35.cell? ⟨gb414, 1, none⟩ = some (.slice A0_1 l0_1.length c0_1) := (blk_cell BK414.out 1).trans rfl; have hcz37_2 : w35.cell? ⟨gb414, 2, none⟩ = some (.string a0_2) := (blk_cell BK414.out 2).trans rfl; have hcz37_3 : w35.cell? ⟨gb414, 3, none⟩ = some (.int .u64 a0_3) := (blk_cell BK414.out 3).trans rfl; have hcz37_4 : w35.cell? ⟨gb414, 4, none⟩ = some (.string a0_4) := (blk_cell BK414.out 4).trans rfl; have hfz37_0 := blk_frozen BK414.out 0; have hfz37_1 := blk_frozen BK414.out 1; have hfz37_2 := blk_frozen BK414.out 2; have hfz37_3 := blk_frozen BK414.out 3; have hfz37_4 := blk_frozen BK414.out 4; have hcz38_0 : w35.cell? ⟨gb415, 0, none⟩ = some (.string a1_0) := (blk_cell BK415.out 0).trans rfl; have hcz38_1 : w35.cell? ⟨gb415, 1, none⟩ = some (.slice A1_1 l1_1.length c1_1) := (blk_cell BK415.out 1).trans rfl; have hcz38_2 : w35.cell? ⟨gb415, 2, none⟩ = some (.string a1_2) := (blk_cell BK415.out 2).trans rfl; have hcz38_3 : w35.cell? ⟨gb415, 3, none⟩ = some (.int .u64 a1_3) := (blk_cell BK415.out 3).trans rfl; have hcz38_4 : w35.cell? ⟨gb415, 4, none⟩ = some (.string a1_4) := (blk_cell BK415.out 4).trans rfl; have hfz38_0 := blk_frozen BK415.out 0; have hfz38_1 := blk_frozen BK415.out 1; have hfz38_2 := blk_frozen BK415.out 2; have hfz38_3 := blk_frozen BK415.out 3; have hfz38_4 := blk_frozen BK415.out 4)))
   go_ret
   exact ⟨by first | rfl | (simp [errW_none, errW_some] <;> rfl) | (simp [*, errW_none, errW_some] <;> rfl), by repeat (first | (with_reducible first | exact HB.out | apply below_alloc | apply pw_below_drewN | apply below_drew1 | refine below_set ?_ GE414.out | refine below_set ?_ GE415.out) | exact HB.out)⟩

/-! ### pollardref02_digit: function 53 -/
def pollardref02_digit.f (a0 : Int) : Option (ByteArray) := if a0 < 10 then (some (strOfNums (([(wrap64 (48 + a0)) % 256] : List Int)))) else (some (strOfNums (([(wrap64 (87 + a0)) % 256] : List Int))))
set_option maxHeartbeats 8000000 in
set_option maxRecDepth 100000 in
theorem pollardref02_digit.calls (a0 : Int) (r : ByteArray) (w : World) (h : pollardref02_digit.f a0 = some r) :
 Calls Tryd.prog 53 #[.int .i64 a0] w fun e w' => e = .returned (.string r) ∧ Below w.heap.size w w' := by
 have HB := Aside0.mk (Below.refl w.heap.size w)
 have H : (if a0 < 10 then (some (strOfNums (([(wrap64 (48 + a0)) % 256] : List Int)))) else (some (strOfNums (([(wrap64 (87 + a0)) % 256] : List Int))))) = some r := h
 clear h
 by_cases c2 : a0 < 10
 · rw [if_pos c2] at H
   have c2b0 : decide (a0 < 10) = true := decide_eq_true c2
   clear c2
   obtain ⟨y418, hy418⟩ : ∃ y_ : List Int, y_ = (([(wrap64 (48 + a0)) % 256] : List Int)) := ⟨_, rfl⟩
   replace H : (some (strOfNums y418)) = some r := by first | (rw [hy418]; with_reducible exact H) | (have H2_ := (Option.bind_some _ _).symm.trans H; rw [hy418]; with_reducible exact H2_) | (have H2_ := (Option.bind_some _ _).symm.trans H; with_reducible exact H2_) | with_reducible exact H | (rw [hy418]; exact H) | exact H
   have Ny418 := Aside0.mk hy418
   clear hy418
   obtain rfl := Option.some.inj H
   go_enter Tryd.func53, Tryd.ntmps53
   go_wp2_with (first | ((with_reducible refine gate_dst (N := 8) rfl ?_); refine Kd.R_lit (Kd.int .u8) _ 5 ?hg (N := 8) ?hd (xs := ([(wrap64 (48 + a0)) % 256] : List Int)) (inner := [.int .u8 ((wrap64 (48 + a0)) % 256)]) (ok := fun _ => True) (okp := fun _ => True) ?hr ?hp (fun _ hk => hk) trivial (Below.refl _ _) (Nat.le_refl _) (by simp) ?_; (case hd => rfl); (case hg => rfl); (case hr => first | (go_simp; done) | (go_simp; rfl) | (go_simp; simp only [show ∀ x_ : Int, IntKind.u8.wrap x_ = x_ % 256 from fun _ => rfl, Int.add_emod_emod, Int.emod_add_emod, Int.emod_emod]; done)); (case hp => exact (Reps.one (show Kd.M (Kd.int .u8) _ _ _ ((wrap64 (48 + a0)) % 256) [.int .u8 ((wrap64 (48 + a0)) % 256)] from rfl) (Reps.none _ _))); intro v419 w3 ho4 hb hg_ hnew_; clear hg_ hnew_; (first | rw [← Ny418.out] at ho4 | (simp only [Int.reduceToNat] at ho4; rw [← Ny418.out] at ho4)); have n0_ := Aside0.mk (Kd.R_lower ho4 (below_size (by repeat (first | (with_reducible first | exact HB.out | apply below_alloc | apply pw_below_drewN | apply below_drew1) | exact HB.out)))); have n1_ := Aside0.mk (below_step (by repeat (first | (with_reducible first | exact HB.out | apply below_alloc | apply pw_below_drewN | apply below_drew1) | exact HB.out)) hb); clear HB; have HO420 := n0_; have HB := n1_; clear n0_ n1_; clear hb ho4; have hcv5 := own_string (P := Tryd.prog) Tryd.underlying91 Tryd.underlying5 Tryd.underlying9 (Kd.own_of_R HO420.out)))
   go_ret
   exact ⟨by first | rfl | (simp [errW_none, errW_some] <;> rfl) | (simp [*, errW_none, errW_some] <;> rfl), by repeat (first | (with_reducible first | exact HB.out | apply below_alloc | apply pw_below_drewN | apply below_drew1) | exact HB.out)⟩
 · rw [if_neg c2] at H
   have c2b0 : decide (a0 < 10) = false := decide_eq_false c2
   clear c2
   obtain ⟨y421, hy421⟩ : ∃ y_ : List Int, y_ = (([(wrap64 (87 + a0)) % 256] : List Int)) := ⟨_, rfl⟩
   replace H : (some (strOfNums y421)) = some r := by first | (rw [hy421]; with_reducible exact H) | (have H2_ := (Option.bind_some _ _).symm.trans H; rw [hy421]; with_reducible exact H2_) | (have H2_ := (Option.bind_some _ _).symm.trans H; with_reducible exact H2_) | with_reducible exact H | (rw [hy421]; exact H) | exact H
   have Ny421 := Aside0.mk hy421
   clear hy421
   obtain rfl := Option.some.inj H
   go_enter Tryd.func53, Tryd.ntmps53
   go_wp2_with (first | ((with_reducible refine gate_dst (N := 13) rfl ?_); refine Kd.R_lit (Kd.int .u8) _ 5 ?hg (N := 13) ?hd (xs := ([(wrap64 (87 + a0)) % 256] : List Int)) (inner := [.int .u8 ((wrap64 (87 + a0)) % 256)]) (ok := fun _ => True) (okp := fun _ => True) ?hr ?hp (fun _ hk => hk) trivial (Below.refl _ _) (Nat.le_refl _) (by simp) ?_; (case hd => rfl); (case hg => rfl); (case hr => first | (go_simp; done) | (go_simp; rfl) | (go_simp; simp only [show ∀ x_ : Int, IntKind.u8.wrap x_ = x_ % 256 from fun _ => rfl, Int.add_emod_emod, Int.emod_add_emod, Int.emod_emod]; done)); (case hp => exact (Reps.one (show Kd.M (Kd.int .u8) _ _ _ ((wrap64 (87 + a0)) % 256) [.int .u8 ((wrap64 (87 + a0)) % 256)] from rfl) (Reps.none _ _))); intro v422 w6 ho7 hb hg_ hnew_; clear hg_ hnew_; (first | rw [← Ny421.out] at ho7 | (simp only [Int.reduceToNat] at ho7; rw [← Ny421.out] at ho7)); have n0_ := Aside0.mk (Kd.R_lower ho7 (below_size (by repeat (first | (with_reducible first | exact HB.out | apply below_alloc | apply pw_below_drewN | apply below_drew1) | exact HB.out)))); have n1_ := Aside0.mk (below_step (by repeat (first | (with_reducible first | exact HB.out | apply below_alloc | apply pw_below_drewN | apply below_drew1) | exact HB.out)) hb); clear HB; have HO423 := n0_; have HB := n1_; clear n0_ n1_; clear hb ho7; have hcv8 := own_string (P := Tryd.prog) Tryd.underlying91 Tryd.underlying5 Tryd.underlying9 (Kd.own_of_R HO423.out)))
   go_ret
   exact ⟨by first | rfl | (simp [errW_none, errW_some] <;> rfl) | (simp [*, errW_none, errW_some] <;> rfl), by repeat (first | (with_reducible first | exact HB.out | apply below_alloc | apply pw_below_drewN | apply below_drew1) | exact HB.out)⟩

end Go.Proofs.YtnapcfpecpgdbaaDoor.M
