/- The program's functions as plain functions, and that each call comes to what these tell; written by a program of this session, some contracts by hand. Conditions: none. -/
import Derived.Test.YtgepbdkbleapaaaMx0
import Derived.Test.YtgepbdkbleapaaaMx8
import Derived.Test.YtgepbdkbleapaaaMx9
import Derived.Test.YtgepbdkbleapaaaMx10
namespace Go.Proofs.Ytgepbdkbleapaaa.M
open Go.RowKit Go.Proofs.YtgepbdkbleapaaaW.PrintWords Go.Proofs.YtgepbdkbleapaaaW.PrintLast Go.Proofs.YtgepbdkbleapaaaW.PrintMore
attribute [local go_sem] max2_int min2_int max_two min_two max_three min_three max_four min_four   -- for this text's walks alone
set_option linter.unusedVariables false
set_option linter.unusedSimpArgs false

/-! ### pollardref13_why: function 28 -/
mutual
def pollardref13_why.j0 : Nat → List (S37) → ByteArray → Bool → ByteArray → List (S61) → ByteArray → ByteArray → ByteArray → Bool → Option (Int)
 | 0, _, _, _, _, _, _, _, _, _ => none
 | k + 1, x2, x7, x17, x152000, x152001, x153000, x153001, x153002, x153003 => if x17 = true then (some 1) else (if x7.toList = x153001.toList then (if x153002.toList = ([] : List UInt8) then (pollardref13_why.j1 k x2 x7 (x153000.toList == x152000.toList) x153000 x153001 x153002 x153003) else (pollardref13_why.j1 k x2 x7 false x153000 x153001 x153002 x153003)) else (some 130))
def pollardref13_why.j1 : Nat → List (S37) → ByteArray → Bool → ByteArray → ByteArray → ByteArray → Bool → Option (Int)
 | 0, _, _, _, _, _, _, _ => none
 | k + 1, x2, x7, x42, x153000, x153001, x153002, x153003 => if x42 = true then (some 132) else (if x153002.toList = ([] : List UInt8) then (pollardref13_why.j2 k x2 x7 true x153000 x153001 x153002 x153003) else (if x7.toList = ([] : List UInt8) then (pollardref13_why.j2 k x2 x7 true x153000 x153001 x153002 x153003) else (if x7.toList = x153002.toList then (pollardref13_why.j2 k x2 x7 true x153000 x153001 x153002 x153003) else (pollardref13_why.j2 k x2 x7 x153003 x153000 x153001 x153002 x153003))))
def pollardref13_why.j2 : Nat → List (S37) → ByteArray → Bool → ByteArray → ByteArray → ByteArray → Bool → Option (Int)
 | 0, _, _, _, _, _, _, _ => none
 | k + 1, x2, x7, x53, x153000, x153001, x153002, x153003 => if x53 = true then (some 0) else ((pollardref05_Ref.f k x153000).bind fun t155 => (if t155 = 2 then (some 133) else ((pollardref13_Ways_Forward.f k x2 x7 x153002).bind fun t156 => (if t156 = true then (some 0) else (some 131)))))
end
def pollardref13_why.f (k : Nat) (a0_0 : ByteArray) (l0_1 : List (S61)) (a1_0 : ByteArray) (a1_1 : ByteArray) (a1_2 : ByteArray) (a1_3 : Bool) (l2 : List (S37)) : Option (Int) := (pollardref13_Get.f k a0_0 l0_1 a1_0).bind fun t153 => ((pollardref05_Ref.f k a1_0).bind fun t154 => (if t154 = 0 then (some 50) else (if a1_2.toList = ([] : List UInt8) then (if a1_1.toList = ([] : List UInt8) then (pollardref13_why.j0 k l2 t153 true a0_0 l0_1 a1_0 a1_1 a1_2 a1_3) else (pollardref13_why.j0 k l2 t153 false a0_0 l0_1 a1_0 a1_1 a1_2 a1_3)) else (pollardref13_why.j0 k l2 t153 ((a1_2.size : Int) != 32) a0_0 l0_1 a1_0 a1_1 a1_2 a1_3))))
theorem pollardref13_why.mono_l : ∀ k, (∀ y0 y1 y2 y3 y4 y5 y6 y7 y8, LeO (pollardref13_why.j0 k y0 y1 y2 y3 y4 y5 y6 y7 y8) (pollardref13_why.j0 (k + 1) y0 y1 y2 y3 y4 y5 y6 y7 y8)) ∧ (∀ y0 y1 y2 y3 y4 y5 y6, LeO (pollardref13_why.j1 k y0 y1 y2 y3 y4 y5 y6) (pollardref13_why.j1 (k + 1) y0 y1 y2 y3 y4 y5 y6)) ∧ (∀ y0 y1 y2 y3 y4 y5 y6, LeO (pollardref13_why.j2 k y0 y1 y2 y3 y4 y5 y6) (pollardref13_why.j2 (k + 1) y0 y1 y2 y3 y4 y5 y6))
 | 0 => ⟨fun _ _ _ _ _ _ _ _ _ r h => by simp [pollardref13_why.j0] at h, fun _ _ _ _ _ _ _ r h => by simp [pollardref13_why.j1] at h, fun _ _ _ _ _ _ _ r h => by simp [pollardref13_why.j2] at h⟩
 | k + 1 => by
  obtain ⟨ih0, ih1, ih2⟩ := pollardref13_why.mono_l k
  refine ⟨?_, ?_, ?_⟩
  all_goals (intros; first | unfold pollardref13_why.j0 | unfold pollardref13_why.j1 | unfold pollardref13_why.j2)
  all_goals repeat' with_reducible first | exact ih0 _ _ _ _ _ _ _ _ _ | exact ih1 _ _ _ _ _ _ _ | exact ih2 _ _ _ _ _ _ _ | exact pollardref05_Ref.mono _ _ | exact pollardref13_Get.mono _ _ _ _ | exact pollardref13_Ways_Forward.mono _ _ _ _ | exact LeO.refl _ | exact LeO.none _ | refine LeO.ite ?_ ?_ | refine LeO.bind ?_ (fun _ => ?_)
theorem pollardref13_why.mono : ∀ a0 a1 a2 a3 a4 a5 a6 k, LeO (pollardref13_why.f k a0 a1 a2 a3 a4 a5 a6) (pollardref13_why.f (k + 1) a0 a1 a2 a3 a4 a5 a6) := by
 intro a0 a1 a2 a3 a4 a5 a6 k
 obtain ⟨ih0, ih1, ih2⟩ := pollardref13_why.mono_l k
 unfold pollardref13_why.f
 repeat' with_reducible first | exact ih0 _ _ _ _ _ _ _ _ _ | exact ih1 _ _ _ _ _ _ _ | exact ih2 _ _ _ _ _ _ _ | exact pollardref05_Ref.mono _ _ | exact pollardref13_Get.mono _ _ _ _ | exact pollardref13_Ways_Forward.mono _ _ _ _ | exact LeO.refl _ | exact LeO.none _ | refine LeO.ite ?_ ?_ | refine LeO.bind ?_ (fun _ => ?_)
set_option maxHeartbeats 8000000 in
set_option maxRecDepth 100000 in
theorem pollardref13_why.calls (k : Nat) (a0_0 : ByteArray) (A0_1 : Option Addr) (c0_1 : Nat) (l0_1 : List (S61)) (a1_0 : ByteArray) (a1_1 : ByteArray) (a1_2 : ByteArray) (a1_3 : Bool) (A2 : Option Addr) (c2 : Nat) (l2 : List (S37)) (r : Int) (w : World) (hr0_1 : Kd.C k61 w A0_1 l0_1.length l0_1) (hc0_1 : l0_1.length ≤ c0_1) (hr2 : Kd.C k37 w A2 l2.length l2) (hc2 : l2.length ≤ c2) (h : pollardref13_why.f k a0_0 l0_1 a1_0 a1_1 a1_2 a1_3 l2 = some r) :
 Calls Try.prog 28 #[.agg #[.string a0_0, .slice A0_1 l0_1.length c0_1], .agg #[.string a1_0, .string a1_1, .string a1_2, .bool a1_3], .slice A2 l2.length c2] w fun e w' => e = .returned (.int .i64 r) ∧ Below w.heap.size w w' := by
 have hu30 := Try.underlying30
 have hu35 := Try.underlying35
 have HR0_1 := Aside0.mk hr0_1
 have HC0_1 := Aside0.mk hc0_1
 clear hr0_1 hc0_1
 have HR2 := Aside0.mk hr2
 have HC2 := Aside0.mk hc2
 clear hr2 hc2
 have HB := Aside0.mk (Below.refl w.heap.size w)
 have H : ((pollardref13_Get.f k a0_0 l0_1 a1_0).bind fun t153 => ((pollardref05_Ref.f k a1_0).bind fun t154 => (if t154 = 0 then (some 50) else (if a1_2.toList = ([] : List UInt8) then (if a1_1.toList = ([] : List UInt8) then (pollardref13_why.j0 k l2 t153 true a0_0 l0_1 a1_0 a1_1 a1_2 a1_3) else (pollardref13_why.j0 k l2 t153 false a0_0 l0_1 a1_0 a1_1 a1_2 a1_3)) else (pollardref13_why.j0 k l2 t153 ((a1_2.size : Int) != 32) a0_0 l0_1 a1_0 a1_1 a1_2 a1_3))))) = some r := h
 clear h
 replace H := Option.bind_eq_some_iff.mp H
 obtain ⟨t153, A40, H⟩ := H
 try dsimp only at H
 have A4 := Aside0.mk A40
 clear A40
 replace H := Option.bind_eq_some_iff.mp H
 obtain ⟨t154, A50, H⟩ := H
 try dsimp only at H
 have A5 := Aside0.mk A50
 clear A50
 by_cases c6 : t154 = 0
 · rw [if_pos c6] at H
   have c6b0 : (t154 == 0) = true := beq_iff_eq.mpr c6
   have c6b1 : (t154 != 0) = false := bne_eq_false_iff_eq.mpr c6
   clear c6
   obtain rfl := Option.some.inj H
   go_enter Try.func28, Try.ntmps28
   go_wp2_with (first | ((with_reducible refine gate_dst (N := 3) rfl ?_); (try (refine gate_guard (by rfl) ?_; dsimp only)); refine box_event ?hg (N := 3) ?hd (cs := #[.string a0_0, .slice A0_1 l0_1.length c0_1]) (t := 30) ?hr ?_; (case hd => rfl); (case hg => rfl); (case hr => first | (go_simp; done) | (go_simp; rfl)); intro gb151 hg w7 hbox hb; have n0_ := Aside0.mk (below_step bz_ hb); have n1_ := Aside0.mk (hbox); have n2_ := Aside0.mk ((by rw [hg]; exact (below_size bz_) : w.heap.size ≤ gb151)); have n3_ := Aside0.mk ((by rw [hg]; exact (below_size bz_) : w.heap.size ≤ gb151)); clear HB; have HB := n0_; have BK151 := n1_; have GW151 := n2_; have GE151 := n3_; clear n0_ n1_ n2_ n3_; clear hb hbox hg) | ((with_reducible refine gate_dst (N := 4) rfl ?_); (try (refine gate_guard (by rfl) ?_; dsimp only)); refine box_event ?hg (N := 4) ?hd (cs := #[.string a1_0, .string a1_1, .string a1_2, .bool a1_3]) (t := 35) ?hr ?_; (case hd => rfl); (case hg => rfl); (case hr => first | (go_simp; done) | (go_simp; rfl)); intro gb152 hg w8 hbox hb; have n0_ := Aside0.mk (blk_below (g := gb151) (o := .cells #[.string a0_0, .slice A0_1 l0_1.length c0_1] 30 (0, 0)) (kz_ BK151.out) hb); have n1_ := Aside0.mk (below_step (bs1_ GE151.out) hb); have n2_ := Aside0.mk (hbox); have n3_ := Aside0.mk ((by rw [hg]; exact (below_size (bs1_ GE151.out)) : w.heap.size ≤ gb152)); have n4_ := Aside0.mk ((by rw [hg]; exact (below_size (bs1_ GE151.out)) : w.heap.size ≤ gb152)); have n5_ := Aside0.mk ((by rw [hg]; exact Nat.ne_of_lt (blk_lt (g := gb151) (o := .cells #[.string a0_0, .slice A0_1 l0_1.length c0_1] 30 (0, 0)) (kz_ BK151.out)) : gb151 ≠ gb152)); have n6_ := Aside0.mk ((by rw [hg]; exact Nat.ne_of_gt (blk_lt (g := gb151) (o := .cells #[.string a0_0, .slice A0_1 l0_1.length c0_1] 30 (0, 0)) (kz_ BK151.out)) : gb152 ≠ gb151)); clear BK151; clear HB; have BK151 := n0_; have HB := n1_; have BK152 := n2_; have GW152 := n3_; have GE152 := n4_; have NB151_152 := n5_; have NB152_151 := n6_; clear n0_ n1_ n2_ n3_ n4_ n5_ n6_; clear hb hbox hg; have hnb9 := NB151_152.out; have hnc9 := NB152_151.out; have hcz10_0 : w8.cell? ⟨gb151, 0, none⟩ = some (.string a0_0) := (blk_cell BK151.out 0).trans rfl; have hcz10_1 : w8.cell? ⟨gb151, 1, none⟩ = some (.slice A0_1 l0_1.length c0_1) := (blk_cell BK151.out 1).trans rfl; have hfz10_0 := blk_frozen BK151.out 0; have hfz10_1 := blk_frozen BK151.out 1; have hcz11_0 : w8.cell? ⟨gb152, 0, none⟩ = some (.string a1_0) := (blk_cell BK152.out 0).trans rfl; have hcz11_1 : w8.cell? ⟨gb152, 1, none⟩ = some (.string a1_1) := (blk_cell BK152.out 1).trans rfl; have hcz11_2 : w8.cell? ⟨gb152, 2, none⟩ = some (.string a1_2) := (blk_cell BK152.out 2).trans rfl; have hcz11_3 : w8.cell? ⟨gb152, 3, none⟩ = some (.bool a1_3) := (blk_cell BK152.out 3).trans rfl; have hfz11_0 := blk_frozen BK152.out 0; have hfz11_1 := blk_frozen BK152.out 1; have hfz11_2 := blk_frozen BK152.out 2; have hfz11_3 := blk_frozen BK152.out 3) | ((with_reducible refine gate_callee (f := 22) rfl ?_); refine goesM_ (some 11) Try.func22 #[.agg #[.string a0_0, .slice A0_1 l0_1.length c0_1], .string a1_0] ?_; (with_reducible refine (pollardref13_Get.calls k a0_0 _ _ l0_1 a1_0 t153 _ ?side1 ?side2 A4.out).mono ?_); (case side1 => repeat (first | exact (Kd.C_below HR0_1.out HB.out) | (with_reducible refine Kd.C_alloc ?_ _) | (with_reducible refine Kd.C_drewN ?_ _) | (with_reducible refine Kd.C_drew ?_))); (case side2 => exact HC0_1.out); rintro e w12 ⟨rfl, hb⟩; refine ⟨_, rfl, ?_⟩; have n0_ := Aside0.mk (blk_below (g := gb151) (o := .cells #[.string a0_0, .slice A0_1 l0_1.length c0_1] 30 (0, 0)) (kz_ BK151.out) hb); have n1_ := Aside0.mk (blk_below (g := gb152) (o := .cells #[.string a1_0, .string a1_1, .string a1_2, .bool a1_3] 35 (0, 0)) (kz_ BK152.out) hb); have n2_ := Aside0.mk (below_step (bs2_ GE151.out GE152.out) hb); clear BK151; clear BK152; clear HB; have BK151 := n0_; have BK152 := n1_; have HB := n2_; clear n0_ n1_ n2_; (try clear hb); (try clear hb2); (try clear hk); (try clear hi); have hcz13_0 : w12.cell? ⟨gb152, 0, none⟩ = some (.string a1_0) := (blk_cell BK152.out 0).trans rfl; have hcz13_1 : w12.cell? ⟨gb152, 1, none⟩ = some (.string a1_1) := (blk_cell BK152.out 1).trans rfl; have hcz13_2 : w12.cell? ⟨gb152, 2, none⟩ = some (.string a1_2) := (blk_cell BK152.out 2).trans rfl; have hcz13_3 : w12.cell? ⟨gb152, 3, none⟩ = some (.bool a1_3) := (blk_cell BK152.out 3).trans rfl; have hfz13_0 := blk_frozen BK152.out 0; have hfz13_1 := blk_frozen BK152.out 1; have hfz13_2 := blk_frozen BK152.out 2; have hfz13_3 := blk_frozen BK152.out 3) | ((with_reducible refine gate_callee (f := 31) rfl ?_); refine goesM_ (some 15) Try.func31 #[.string a1_0] ?_; (with_reducible refine (pollardref05_Ref.calls k a1_0 t154 _ A5.out).mono ?_); rintro e w' ⟨rfl, ⟨nd, rfl⟩⟩; refine ⟨_, rfl, ?_⟩))
   go_ret
   exact ⟨xz_, bs2_ GE151.out GE152.out⟩
 ·
  rw [if_neg c6] at H
  have c6b0 : (t154 == 0) = false := beq_eq_false_iff_ne.mpr c6
  have c6b1 : (t154 != 0) = true := bne_iff_ne.mpr c6
  have HC14 := Aside0.mk H
  clear H
  go_enter Try.func28, Try.ntmps28
  go_upto_region 4 with (first | ((with_reducible refine gate_dst (N := 3) rfl ?_); (try (refine gate_guard (by rfl) ?_; dsimp only)); refine box_event ?hg (N := 3) ?hd (cs := #[.string a0_0, .slice A0_1 l0_1.length c0_1]) (t := 30) ?hr ?_; (case hd => rfl); (case hg => rfl); (case hr => first | (go_simp; done) | (go_simp; rfl)); intro gb151 hg w15 hbox hb; have n0_ := Aside0.mk (below_step bz_ hb); have n1_ := Aside0.mk (hbox); have n2_ := Aside0.mk ((by rw [hg]; exact (below_size bz_) : w.heap.size ≤ gb151)); have n3_ := Aside0.mk ((by rw [hg]; exact (below_size bz_) : w.heap.size ≤ gb151)); clear HB; have HB := n0_; have BK151 := n1_; have GW151 := n2_; have GE151 := n3_; clear n0_ n1_ n2_ n3_; clear hb hbox hg) | ((with_reducible refine gate_dst (N := 4) rfl ?_); (try (refine gate_guard (by rfl) ?_; dsimp only)); refine box_event ?hg (N := 4) ?hd (cs := #[.string a1_0, .string a1_1, .string a1_2, .bool a1_3]) (t := 35) ?hr ?_; (case hd => rfl); (case hg => rfl); (case hr => first | (go_simp; done) | (go_simp; rfl)); intro gb152 hg w16 hbox hb; have n0_ := Aside0.mk (blk_below (g := gb151) (o := .cells #[.string a0_0, .slice A0_1 l0_1.length c0_1] 30 (0, 0)) (kz_ BK151.out) hb); have n1_ := Aside0.mk (below_step (bs1_ GE151.out) hb); have n2_ := Aside0.mk (hbox); have n3_ := Aside0.mk ((by rw [hg]; exact (below_size (bs1_ GE151.out)) : w.heap.size ≤ gb152)); have n4_ := Aside0.mk ((by rw [hg]; exact (below_size (bs1_ GE151.out)) : w.heap.size ≤ gb152)); have n5_ := Aside0.mk ((by rw [hg]; exact Nat.ne_of_lt (blk_lt (g := gb151) (o := .cells #[.string a0_0, .slice A0_1 l0_1.length c0_1] 30 (0, 0)) (kz_ BK151.out)) : gb151 ≠ gb152)); have n6_ := Aside0.mk ((by rw [hg]; exact Nat.ne_of_gt (blk_lt (g := gb151) (o := .cells #[.string a0_0, .slice A0_1 l0_1.length c0_1] 30 (0, 0)) (kz_ BK151.out)) : gb152 ≠ gb151)); clear BK151; clear HB; have BK151 := n0_; have HB := n1_; have BK152 := n2_; have GW152 := n3_; have GE152 := n4_; have NB151_152 := n5_; have NB152_151 := n6_; clear n0_ n1_ n2_ n3_ n4_ n5_ n6_; clear hb hbox hg; have hnb17 := NB151_152.out; have hnc17 := NB152_151.out; have hcz18_0 : w16.cell? ⟨gb151, 0, none⟩ = some (.string a0_0) := (blk_cell BK151.out 0).trans rfl; have hcz18_1 : w16.cell? ⟨gb151, 1, none⟩ = some (.slice A0_1 l0_1.length c0_1) := (blk_cell BK151.out 1).trans rfl; have hfz18_0 := blk_frozen BK151.out 0; have hfz18_1 := blk_frozen BK151.out 1; have hcz19_0 : w16.cell? ⟨gb152, 0, none⟩ = some (.string a1_0) := (blk_cell BK152.out 0).trans rfl; have hcz19_1 : w16.cell? ⟨gb152, 1, none⟩ = some (.string a1_1) := (blk_cell BK152.out 1).trans rfl; have hcz19_2 : w16.cell? ⟨gb152, 2, none⟩ = some (.string a1_2) := (blk_cell BK152.out 2).trans rfl; have hcz19_3 : w16.cell? ⟨gb152, 3, none⟩ = some (.bool a1_3) := (blk_cell BK152.out 3).trans rfl; have hfz19_0 := blk_frozen BK152.out 0; have hfz19_1 := blk_frozen BK152.out 1; have hfz19_2 := blk_frozen BK152.out 2; have hfz19_3 := blk_frozen BK152.out 3) | ((with_reducible refine gate_callee (f := 22) rfl ?_); refine goesM_ (some 11) Try.func22 #[.agg #[.string a0_0, .slice A0_1 l0_1.length c0_1], .string a1_0] ?_; (with_reducible refine (pollardref13_Get.calls k a0_0 _ _ l0_1 a1_0 t153 _ ?side1 ?side2 A4.out).mono ?_); (case side1 => repeat (first | exact (Kd.C_below HR0_1.out HB.out) | (with_reducible refine Kd.C_alloc ?_ _) | (with_reducible refine Kd.C_drewN ?_ _) | (with_reducible refine Kd.C_drew ?_))); (case side2 => exact HC0_1.out); rintro e w20 ⟨rfl, hb⟩; refine ⟨_, rfl, ?_⟩; have n0_ := Aside0.mk (blk_below (g := gb151) (o := .cells #[.string a0_0, .slice A0_1 l0_1.length c0_1] 30 (0, 0)) (kz_ BK151.out) hb); have n1_ := Aside0.mk (blk_below (g := gb152) (o := .cells #[.string a1_0, .string a1_1, .string a1_2, .bool a1_3] 35 (0, 0)) (kz_ BK152.out) hb); have n2_ := Aside0.mk (below_step (bs2_ GE151.out GE152.out) hb); clear BK151; clear BK152; clear HB; have BK151 := n0_; have BK152 := n1_; have HB := n2_; clear n0_ n1_ n2_; (try clear hb); (try clear hb2); (try clear hk); (try clear hi); have hcz21_0 : w20.cell? ⟨gb152, 0, none⟩ = some (.string a1_0) := (blk_cell BK152.out 0).trans rfl; have hcz21_1 : w20.cell? ⟨gb152, 1, none⟩ = some (.string a1_1) := (blk_cell BK152.out 1).trans rfl; have hcz21_2 : w20.cell? ⟨gb152, 2, none⟩ = some (.string a1_2) := (blk_cell BK152.out 2).trans rfl; have hcz21_3 : w20.cell? ⟨gb152, 3, none⟩ = some (.bool a1_3) := (blk_cell BK152.out 3).trans rfl; have hfz21_0 := blk_frozen BK152.out 0; have hfz21_1 := blk_frozen BK152.out 1; have hfz21_2 := blk_frozen BK152.out 2; have hfz21_3 := blk_frozen BK152.out 3) | ((with_reducible refine gate_callee (f := 31) rfl ?_); refine goesM_ (some 15) Try.func31 #[.string a1_0] ?_; (with_reducible refine (pollardref05_Ref.calls k a1_0 t154 _ A5.out).mono ?_); rintro e w' ⟨rfl, ⟨nd, rfl⟩⟩; refine ⟨_, rfl, ?_⟩))
  (try simp only [Act.put, List.setIfInBounds_toArray, List.set_cons_zero, List.set_cons_succ])
  go_cut [17] (fun v17 wc => ∃ (kq : Nat) (x17_13 : Bool), v17 = .bool x17_13 ∧ Aside0 (pollardref13_why.j0 kq l2 t153 x17_13 a0_0 l0_1 a1_0 a1_1 a1_2 a1_3 = some r) ∧ Aside0 (kq ≤ k) ∧ Aside0 (wc.heap[gb151]? = some (.cells #[.string a0_0, (.slice A0_1 l0_1.length c0_1)] 30 (0, 0))) ∧ Aside0 (wc.heap[gb152]? = some (.cells #[.string a1_0, .string a1_1, .string a1_2, .bool a1_3] 35 (0, 0))) ∧ Aside0 (Below w.heap.size w wc))
  case first =>
   have H := HC14.out
   clear HC14
   by_cases c22 : a1_2.toList = ([] : List UInt8)
   ·
    rw [if_pos c22] at H
    have c22b0 : (a1_2.toList == ([] : List UInt8)) = true := beq_iff_eq.mpr c22
    have c22b1 : (a1_2.toList != ([] : List UInt8)) = false := bne_eq_false_iff_eq.mpr c22
    clear c22
    (first | rw [c22b0] | (simp only [i64_w, i32_w]; rw [c22b0]) | skip)
    by_cases c23 : a1_1.toList = ([] : List UInt8)
    ·
     rw [if_pos c23] at H
     have c23b0 : (a1_1.toList == ([] : List UInt8)) = true := beq_iff_eq.mpr c23
     have c23b1 : (a1_1.toList != ([] : List UInt8)) = false := bne_eq_false_iff_eq.mpr c23
     clear c23
     have H' := Aside0.mk H
     clear H
     have hnb24 := NB152_151.out
     have hnc24 := NB151_152.out
     have hcz25_0 : w20.cell? ⟨gb152, 0, none⟩ = some (.string a1_0) := (blk_cell BK152.out 0).trans rfl
     have hcz25_1 : w20.cell? ⟨gb152, 1, none⟩ = some (.string a1_1) := (blk_cell BK152.out 1).trans rfl
     have hcz25_2 : w20.cell? ⟨gb152, 2, none⟩ = some (.string a1_2) := (blk_cell BK152.out 2).trans rfl
     have hcz25_3 : w20.cell? ⟨gb152, 3, none⟩ = some (.bool a1_3) := (blk_cell BK152.out 3).trans rfl
     have hfz25_0 := blk_frozen BK152.out 0
     have hfz25_1 := blk_frozen BK152.out 1
     have hfz25_2 := blk_frozen BK152.out 2
     have hfz25_3 := blk_frozen BK152.out 3
     go_wp2
     go_meet
     case rel => exact ⟨_, (true), ez_, H', ⟨by first | omega | exact Nat.le_refl _⟩, ⟨kz_ BK151.out⟩, ⟨kz_ BK152.out⟩, ⟨bs2_ GE151.out GE152.out⟩⟩
    ·
     rw [if_neg c23] at H
     have c23b0 : (a1_1.toList == ([] : List UInt8)) = false := beq_eq_false_iff_ne.mpr c23
     have c23b1 : (a1_1.toList != ([] : List UInt8)) = true := bne_iff_ne.mpr c23
     have H' := Aside0.mk H
     clear H
     have hnb26 := NB152_151.out
     have hnc26 := NB151_152.out
     have hcz27_0 : w20.cell? ⟨gb152, 0, none⟩ = some (.string a1_0) := (blk_cell BK152.out 0).trans rfl
     have hcz27_1 : w20.cell? ⟨gb152, 1, none⟩ = some (.string a1_1) := (blk_cell BK152.out 1).trans rfl
     have hcz27_2 : w20.cell? ⟨gb152, 2, none⟩ = some (.string a1_2) := (blk_cell BK152.out 2).trans rfl
     have hcz27_3 : w20.cell? ⟨gb152, 3, none⟩ = some (.bool a1_3) := (blk_cell BK152.out 3).trans rfl
     have hfz27_0 := blk_frozen BK152.out 0
     have hfz27_1 := blk_frozen BK152.out 1
     have hfz27_2 := blk_frozen BK152.out 2
     have hfz27_3 := blk_frozen BK152.out 3
     go_wp2
     go_meet
     case rel => exact ⟨_, (false), ez_, H', ⟨by first | omega | exact Nat.le_refl _⟩, ⟨kz_ BK151.out⟩, ⟨kz_ BK152.out⟩, ⟨bs2_ GE151.out GE152.out⟩⟩
   ·
    rw [if_neg c22] at H
    have c22b0 : (a1_2.toList == ([] : List UInt8)) = false := beq_eq_false_iff_ne.mpr c22
    have c22b1 : (a1_2.toList != ([] : List UInt8)) = true := bne_iff_ne.mpr c22
    (first | rw [c22b0] | (simp only [i64_w, i32_w]; rw [c22b0]) | skip)
    have H' := Aside0.mk H
    clear H
    have hnb28 := NB152_151.out
    have hnc28 := NB151_152.out
    have hcz29_0 : w20.cell? ⟨gb152, 0, none⟩ = some (.string a1_0) := (blk_cell BK152.out 0).trans rfl
    have hcz29_1 : w20.cell? ⟨gb152, 1, none⟩ = some (.string a1_1) := (blk_cell BK152.out 1).trans rfl
    have hcz29_2 : w20.cell? ⟨gb152, 2, none⟩ = some (.string a1_2) := (blk_cell BK152.out 2).trans rfl
    have hcz29_3 : w20.cell? ⟨gb152, 3, none⟩ = some (.bool a1_3) := (blk_cell BK152.out 3).trans rfl
    have hfz29_0 := blk_frozen BK152.out 0
    have hfz29_1 := blk_frozen BK152.out 1
    have hfz29_2 := blk_frozen BK152.out 2
    have hfz29_3 := blk_frozen BK152.out 3
    go_wp2
    go_meet
    case rel => exact ⟨_, (((a1_2.size : Int) != 32)), ez_, H', ⟨by first | omega | exact Nat.le_refl _⟩, ⟨kz_ BK151.out⟩, ⟨kz_ BK152.out⟩, ⟨bs2_ GE151.out GE152.out⟩⟩
  case rest =>
   clear HC14
   try clear c1
   try clear c2
   try clear p2
   try clear c3
   try clear c6
   try clear c6b0
   try clear c6b1
   try clear c9
   try clear c17
   try clear c22
   try clear c22b0
   try clear c22b1
   try clear c23
   try clear c23b0
   try clear c23b1
   try clear c24
   try clear c26
   try clear c28
   try clear hcz10_0
   try clear hcz10_1
   try clear hcz11_0
   try clear hcz11_1
   try clear hcz11_2
   try clear hcz11_3
   try clear hcz13_0
   try clear hcz13_1
   try clear hcz13_2
   try clear hcz13_3
   try clear hcz18_0
   try clear hcz18_1
   try clear hcz19_0
   try clear hcz19_1
   try clear hcz19_2
   try clear hcz19_3
   try clear hcz21_0
   try clear hcz21_1
   try clear hcz21_2
   try clear hcz21_3
   try clear hcz25_0
   try clear hcz25_1
   try clear hcz25_2
   try clear hcz25_3
   try clear hcz27_0
   try clear hcz27_1
   try clear hcz27_2
   try clear hcz27_3
   try clear hcz29_0
   try clear hcz29_1
   try clear hcz29_2
   try clear hcz29_3
   try clear hfz10_0
   try clear hfz10_1
   try clear hfz11_0
   try clear hfz11_1
   try clear hfz11_2
   try clear hfz11_3
   try clear hfz13_0
   try clear hfz13_1
   try clear hfz13_2
   try clear hfz13_3
   try clear hfz18_0
   try clear hfz18_1
   try clear hfz19_0
   try clear hfz19_1
   try clear hfz19_2
   try clear hfz19_3
   try clear hfz21_0
   try clear hfz21_1
   try clear hfz21_2
   try clear hfz21_3
   try clear hfz25_0
   try clear hfz25_1
   try clear hfz25_2
   try clear hfz25_3
   try clear hfz27_0
   try clear hfz27_1
   try clear hfz27_2
   try clear hfz27_3
   try clear hfz29_0
   try clear hfz29_1
   try clear hfz29_2
   try clear hfz29_3
   obtain ⟨kq, x17_13, rfl, HA, HJ13, BK151, BK152, HB⟩ := hcut
   cases kq with
   | zero => exact absurd HA.out (by simp [pollardref13_why.j0])
   | succ kj13 =>
    have H := HA.out
    clear HA
    simp only [pollardref13_why.j0] at H
    by_cases c30 : x17_13 = true
    · subst c30
      have H1 := H
      rw [if_pos rfl] at H1
      clear H
      have H := H1
      clear H1
      obtain rfl := Option.some.inj H
      go_wp2
      go_ret
      exact ⟨xz_, bs2_ GE151.out GE152.out⟩
    ·
     replace c30 := Bool.eq_false_iff.mpr c30
     subst c30
     have H1 := H
     rw [if_neg (show ¬ (false = true) by decide)] at H1
     clear H
     have H := H1
     clear H1
     by_cases c31 : t153.toList = a1_1.toList
     ·
      rw [if_pos c31] at H
      have c31b0 : (t153.toList == a1_1.toList) = true := beq_iff_eq.mpr c31
      have c31b1 : (t153.toList != a1_1.toList) = false := bne_eq_false_iff_eq.mpr c31
      clear c31
      have HC32 := Aside0.mk H
      clear H
      have hnb33 := NB152_151.out
      have hnc33 := NB151_152.out
      have hcz34_0 : wc.cell? ⟨gb152, 0, none⟩ = some (.string a1_0) := (blk_cell BK152.out 0).trans rfl
      have hcz34_1 : wc.cell? ⟨gb152, 1, none⟩ = some (.string a1_1) := (blk_cell BK152.out 1).trans rfl
      have hcz34_2 : wc.cell? ⟨gb152, 2, none⟩ = some (.string a1_2) := (blk_cell BK152.out 2).trans rfl
      have hcz34_3 : wc.cell? ⟨gb152, 3, none⟩ = some (.bool a1_3) := (blk_cell BK152.out 3).trans rfl
      have hfz34_0 := blk_frozen BK152.out 0
      have hfz34_1 := blk_frozen BK152.out 1
      have hfz34_2 := blk_frozen BK152.out 2
      have hfz34_3 := blk_frozen BK152.out 3
      go_upto_region 8 with (fail)
      go_cut [42] (fun v42 wc => ∃ (kq : Nat) (x42_31 : Bool), v42 = .bool x42_31 ∧ Aside0 (pollardref13_why.j1 kq l2 t153 x42_31 a1_0 a1_1 a1_2 a1_3 = some r) ∧ Aside0 (kq ≤ kj13) ∧ Aside0 (wc.heap[gb151]? = some (.cells #[.string a0_0, (.slice A0_1 l0_1.length c0_1)] 30 (0, 0))) ∧ Aside0 (wc.heap[gb152]? = some (.cells #[.string a1_0, .string a1_1, .string a1_2, .bool a1_3] 35 (0, 0))) ∧ Aside0 (Below w.heap.size w wc))
      case first =>
       have H := HC32.out
       clear HC32
       by_cases c35 : a1_2.toList = ([] : List UInt8)
       ·
        rw [if_pos c35] at H
        have c35b0 : (a1_2.toList == ([] : List UInt8)) = true := beq_iff_eq.mpr c35
        have c35b1 : (a1_2.toList != ([] : List UInt8)) = false := bne_eq_false_iff_eq.mpr c35
        clear c35
        (first | rw [c35b0] | (simp only [i64_w, i32_w]; rw [c35b0]) | skip)
        have H' := Aside0.mk H
        clear H
        have hnb36 := NB152_151.out
        have hnc36 := NB151_152.out
        have hcz37_0 : wc.cell? ⟨gb152, 0, none⟩ = some (.string a1_0) := (blk_cell BK152.out 0).trans rfl
        have hcz37_1 : wc.cell? ⟨gb152, 1, none⟩ = some (.string a1_1) := (blk_cell BK152.out 1).trans rfl
        have hcz37_2 : wc.cell? ⟨gb152, 2, none⟩ = some (.string a1_2) := (blk_cell BK152.out 2).trans rfl
        have hcz37_3 : wc.cell? ⟨gb152, 3, none⟩ = some (.bool a1_3) := (blk_cell BK152.out 3).trans rfl
        have hfz37_0 := blk_frozen BK152.out 0
        have hfz37_1 := blk_frozen BK152.out 1
        have hfz37_2 := blk_frozen BK152.out 2
        have hfz37_3 := blk_frozen BK152.out 3
        have hcz38_0 : wc.cell? ⟨gb151, 0, none⟩ = some (.string a0_0) := (blk_cell BK151.out 0).trans rfl
        have hcz38_1 : wc.cell? ⟨gb151, 1, none⟩ = some (.slice A0_1 l0_1.length c0_1) := (blk_cell BK151.out 1).trans rfl
        have hfz38_0 := blk_frozen BK151.out 0
        have hfz38_1 := blk_frozen BK151.out 1
        go_wp2
        go_meet
        case rel => exact ⟨_, ((a1_0.toList == a0_0.toList)), ez_, H', ⟨by have := HJ13.out; first | omega | exact Nat.le_refl _⟩, ⟨kz_ BK151.out⟩, ⟨kz_ BK152.out⟩, ⟨bs2_ GE151.out GE152.out⟩⟩
       ·
        rw [if_neg c35] at H
        have c35b0 : (a1_2.toList == ([] : List UInt8)) = false := beq_eq_false_iff_ne.mpr c35
        have c35b1 : (a1_2.toList != ([] : List UInt8)) = true := bne_iff_ne.mpr c35
        (first | rw [c35b0] | (simp only [i64_w, i32_w]; rw [c35b0]) | skip)
        have H' := Aside0.mk H
        clear H
        have hnb39 := NB152_151.out
        have hnc39 := NB151_152.out
        have hcz40_0 : wc.cell? ⟨gb152, 0, none⟩ = some (.string a1_0) := (blk_cell BK152.out 0).trans rfl
        have hcz40_1 : wc.cell? ⟨gb152, 1, none⟩ = some (.string a1_1) := (blk_cell BK152.out 1).trans rfl
        have hcz40_2 : wc.cell? ⟨gb152, 2, none⟩ = some (.string a1_2) := (blk_cell BK152.out 2).trans rfl
        have hcz40_3 : wc.cell? ⟨gb152, 3, none⟩ = some (.bool a1_3) := (blk_cell BK152.out 3).trans rfl
        have hfz40_0 := blk_frozen BK152.out 0
        have hfz40_1 := blk_frozen BK152.out 1
        have hfz40_2 := blk_frozen BK152.out 2
        have hfz40_3 := blk_frozen BK152.out 3
        go_wp2
        go_meet
        case rel => exact ⟨_, (false), ez_, H', ⟨by have := HJ13.out; first | omega | exact Nat.le_refl _⟩, ⟨kz_ BK151.out⟩, ⟨kz_ BK152.out⟩, ⟨bs2_ GE151.out GE152.out⟩⟩
      case rest =>
       clear HC32
       try clear c1
       try clear c2
       try clear p2
       try clear c3
       try clear c6
       try clear c6b0
       try clear c6b1
       try clear c9
       try clear c17
       try clear c22
       try clear c22b0
       try clear c22b1
       try clear c23
       try clear c23b0
       try clear c23b1
       try clear c24
       try clear c26
       try clear c28
       try clear c30
       try clear c31
       try clear c31b0
       try clear c31b1
       try clear c33
       try clear c35
       try clear c35b0
       try clear c35b1
       try clear c36
       try clear c39
       try clear hcz10_0
       try clear hcz10_1
       try clear hcz11_0
       try clear hcz11_1
       try clear hcz11_2
       try clear hcz11_3
       try clear hcz13_0
       try clear hcz13_1
       try clear hcz13_2
       try clear hcz13_3
       try clear hcz18_0
       try clear hcz18_1
       try clear hcz19_0
       try clear hcz19_1
       try clear hcz19_2
       try clear hcz19_3
       try clear hcz21_0
       try clear hcz21_1
       try clear hcz21_2
       try clear hcz21_3
       try clear hcz25_0
       try clear hcz25_1
       try clear hcz25_2
       try clear hcz25_3
       try clear hcz27_0
       try clear hcz27_1
       try clear hcz27_2
       try clear hcz27_3
       try clear hcz29_0
       try clear hcz29_1
       try clear hcz29_2
       try clear hcz29_3
       try clear hcz34_0
       try clear hcz34_1
       try clear hcz34_2
       try clear hcz34_3
       try clear hcz37_0
       try clear hcz37_1
       try clear hcz37_2
       try clear hcz37_3
       try clear hcz38_0
       try clear hcz38_1
       try clear hcz40_0
       try clear hcz40_1
       try clear hcz40_2
       try clear hcz40_3
       try clear hfz10_0
       try clear hfz10_1
       try clear hfz11_0
       try clear hfz11_1
       try clear hfz11_2
       try clear hfz11_3
       try clear hfz13_0
       try clear hfz13_1
       try clear hfz13_2
       try clear hfz13_3
       try clear hfz18_0
       try clear hfz18_1
       try clear hfz19_0
       try clear hfz19_1
       try clear hfz19_2
       try clear hfz19_3
       try clear hfz21_0
       try clear hfz21_1
       try clear hfz21_2
       try clear hfz21_3
       try clear hfz25_0
       try clear hfz25_1
       try clear hfz25_2
       try clear hfz25_3
       try clear hfz27_0
       try clear hfz27_1
       try clear hfz27_2
       try clear hfz27_3
       try clear hfz29_0
       try clear hfz29_1
       try clear hfz29_2
       try clear hfz29_3
       try clear hfz34_0
       try clear hfz34_1
       try clear hfz34_2
       try clear hfz34_3
       try clear hfz37_0
       try clear hfz37_1
       try clear hfz37_2
       try clear hfz37_3
       try clear hfz38_0
       try clear hfz38_1
       try clear hfz40_0
       try clear hfz40_1
       try clear hfz40_2
       try clear hfz40_3
       try clear p2
       obtain ⟨kq, x42_31, rfl, HA, HJ31, BK151, BK152, HB⟩ := hcut
       cases kq with
       | zero => exact absurd HA.out (by simp [pollardref13_why.j1])
       | succ kj31 =>
        have H := HA.out
        clear HA
        simp only [pollardref13_why.j1] at H
        by_cases c41 : x42_31 = true
        · subst c41
          have H1 := H
          rw [if_pos rfl] at H1
          clear H
          have H := H1
          clear H1
          obtain rfl := Option.some.inj H
          go_wp2
          go_ret
          exact ⟨xz_, bs2_ GE151.out GE152.out⟩
        ·
         replace c41 := Bool.eq_false_iff.mpr c41
         subst c41
         have H1 := H
         rw [if_neg (show ¬ (false = true) by decide)] at H1
         clear H
         have H := H1
         clear H1
         have HC42 := Aside0.mk H
         clear H
         go_upto_region 10 with (fail)
         go_cut [53] (fun v53 wc => ∃ (kq : Nat) (x53_41 : Bool), v53 = .bool x53_41 ∧ Aside0 (pollardref13_why.j2 kq l2 t153 x53_41 a1_0 a1_1 a1_2 a1_3 = some r) ∧ Aside0 (kq ≤ kj31) ∧ Aside0 (wc.heap[gb151]? = some (.cells #[.string a0_0, (.slice A0_1 l0_1.length c0_1)] 30 (0, 0))) ∧ Aside0 (wc.heap[gb152]? = some (.cells #[.string a1_0, .string a1_1, .string a1_2, .bool a1_3] 35 (0, 0))) ∧ Aside0 (Below w.heap.size w wc))
         case first =>
          have H := HC42.out
          clear HC42
          by_cases c43 : a1_2.toList = ([] : List UInt8)
          ·
           rw [if_pos c43] at H
           have c43b0 : (a1_2.toList == ([] : List UInt8)) = true := beq_iff_eq.mpr c43
           have c43b1 : (a1_2.toList != ([] : List UInt8)) = false := bne_eq_false_iff_eq.mpr c43
           clear c43
           (first | rw [c43b0] | (simp only [i64_w, i32_w]; rw [c43b0]) | skip)
           have H' := Aside0.mk H
           clear H
           have hnb44 := NB152_151.out
           have hnc44 := NB151_152.out
           have hcz45_0 : wc.cell? ⟨gb152, 0, none⟩ = some (.string a1_0) := (blk_cell BK152.out 0).trans rfl
           have hcz45_1 : wc.cell? ⟨gb152, 1, none⟩ = some (.string a1_1) := (blk_cell BK152.out 1).trans rfl
           have hcz45_2 : wc.cell? ⟨gb152, 2, none⟩ = some (.string a1_2) := (blk_cell BK152.out 2).trans rfl
           have hcz45_3 : wc.cell? ⟨gb152, 3, none⟩ = some (.bool a1_3) := (blk_cell BK152.out 3).trans rfl
           have hfz45_0 := blk_frozen BK152.out 0
           have hfz45_1 := blk_frozen BK152.out 1
           have hfz45_2 := blk_frozen BK152.out 2
           have hfz45_3 := blk_frozen BK152.out 3
           go_wp2
           go_meet
           case rel => exact ⟨_, (true), ez_, H', ⟨by have := HJ13.out; have := HJ31.out; first | omega | exact Nat.le_refl _⟩, ⟨kz_ BK151.out⟩, ⟨kz_ BK152.out⟩, ⟨bs2_ GE151.out GE152.out⟩⟩
          ·
           rw [if_neg c43] at H
           have c43b0 : (a1_2.toList == ([] : List UInt8)) = false := beq_eq_false_iff_ne.mpr c43
           have c43b1 : (a1_2.toList != ([] : List UInt8)) = true := bne_iff_ne.mpr c43
           (first | rw [c43b0] | (simp only [i64_w, i32_w]; rw [c43b0]) | skip)
           by_cases c46 : t153.toList = ([] : List UInt8)
           ·
            rw [if_pos c46] at H
            have c46b0 : (t153.toList == ([] : List UInt8)) = true := beq_iff_eq.mpr c46
            have c46b1 : (t153.toList != ([] : List UInt8)) = false := bne_eq_false_iff_eq.mpr c46
            clear c46
            have H' := Aside0.mk H
            clear H
            have hnb47 := NB152_151.out
            have hnc47 := NB151_152.out
            have hcz48_0 : wc.cell? ⟨gb152, 0, none⟩ = some (.string a1_0) := (blk_cell BK152.out 0).trans rfl
            have hcz48_1 : wc.cell? ⟨gb152, 1, none⟩ = some (.string a1_1) := (blk_cell BK152.out 1).trans rfl
            have hcz48_2 : wc.cell? ⟨gb152, 2, none⟩ = some (.string a1_2) := (blk_cell BK152.out 2).trans rfl
            have hcz48_3 : wc.cell? ⟨gb152, 3, none⟩ = some (.bool a1_3) := (blk_cell BK152.out 3).trans rfl
            have hfz48_0 := blk_frozen BK152.out 0
            have hfz48_1 := blk_frozen BK152.out 1
            have hfz48_2 := blk_frozen BK152.out 2
            have hfz48_3 := blk_frozen BK152.out 3
            go_wp2
            go_meet
            case rel => exact ⟨_, (true), ez_, H', ⟨by have := HJ13.out; have := HJ31.out; first | omega | exact Nat.le_refl _⟩, ⟨kz_ BK151.out⟩, ⟨kz_ BK152.out⟩, ⟨bs2_ GE151.out GE152.out⟩⟩
           ·
            rw [if_neg c46] at H
            have c46b0 : (t153.toList == ([] : List UInt8)) = false := beq_eq_false_iff_ne.mpr c46
            have c46b1 : (t153.toList != ([] : List UInt8)) = true := bne_iff_ne.mpr c46
            by_cases c49 : t153.toList = a1_2.toList
            ·
             rw [if_pos c49] at H
             have c49b0 : (t153.toList == a1_2.toList) = true := beq_iff_eq.mpr c49
             have c49b1 : (t153.toList != a1_2.toList) = false := bne_eq_false_iff_eq.mpr c49
             clear c49
             have H' := Aside0.mk H
             clear H
             have hnb50 := NB152_151.out
             have hnc50 := NB151_152.out
             have hcz51_0 : wc.cell? ⟨gb152, 0, none⟩ = some (.string a1_0) := (blk_cell BK152.out 0).trans rfl
             have hcz51_1 : wc.cell? ⟨gb152, 1, none⟩ = some (.string a1_1) := (blk_cell BK152.out 1).trans rfl
             have hcz51_2 : wc.cell? ⟨gb152, 2, none⟩ = some (.string a1_2) := (blk_cell BK152.out 2).trans rfl
             have hcz51_3 : wc.cell? ⟨gb152, 3, none⟩ = some (.bool a1_3) := (blk_cell BK152.out 3).trans rfl
             have hfz51_0 := blk_frozen BK152.out 0
             have hfz51_1 := blk_frozen BK152.out 1
             have hfz51_2 := blk_frozen BK152.out 2
             have hfz51_3 := blk_frozen BK152.out 3
             go_wp2
             go_meet
             case rel => exact ⟨_, (true), ez_, H', ⟨by have := HJ13.out; have := HJ31.out; first | omega | exact Nat.le_refl _⟩, ⟨kz_ BK151.out⟩, ⟨kz_ BK152.out⟩, ⟨bs2_ GE151.out GE152.out⟩⟩
            ·
             rw [if_neg c49] at H
             have c49b0 : (t153.toList == a1_2.toList) = false := beq_eq_false_iff_ne.mpr c49
             have c49b1 : (t153.toList != a1_2.toList) = true := bne_iff_ne.mpr c49
             have H' := Aside0.mk H
             clear H
             have hnb52 := NB152_151.out
             have hnc52 := NB151_152.out
             have hcz53_0 : wc.cell? ⟨gb152, 0, none⟩ = some (.string a1_0) := (blk_cell BK152.out 0).trans rfl
             have hcz53_1 : wc.cell? ⟨gb152, 1, none⟩ = some (.string a1_1) := (blk_cell BK152.out 1).trans rfl
             have hcz53_2 : wc.cell? ⟨gb152, 2, none⟩ = some (.string a1_2) := (blk_cell BK152.out 2).trans rfl
             have hcz53_3 : wc.cell? ⟨gb152, 3, none⟩ = some (.bool a1_3) := (blk_cell BK152.out 3).trans rfl
             have hfz53_0 := blk_frozen BK152.out 0
             have hfz53_1 := blk_frozen BK152.out 1
             have hfz53_2 := blk_frozen BK152.out 2
             have hfz53_3 := blk_frozen BK152.out 3
             go_wp2
             go_meet
             case rel => exact ⟨_, (a1_3), ez_, H', ⟨by have := HJ13.out; have := HJ31.out; first | omega | exact Nat.le_refl _⟩, ⟨kz_ BK151.out⟩, ⟨kz_ BK152.out⟩, ⟨bs2_ GE151.out GE152.out⟩⟩
         case rest =>
          clear HC42
          try clear c1
          try clear c2
          try clear p2
          try clear c3
          try clear c4
          try clear c5
          try clear c6
          try clear c6b0
          try clear c6b1
          try clear c9
          try clear c17
          try clear c22
          try clear c22b0
          try clear c22b1
          try clear c23
          try clear c23b0
          try clear c23b1
          try clear c24
          try clear c26
          try clear c28
          try clear c30
          try clear c31
          try clear c31b0
          try clear c31b1
          try clear c33
          try clear c35
          try clear c35b0
          try clear c35b1
          try clear c36
          try clear c39
          try clear c41
          try clear c43
          try clear c43b0
          try clear c43b1
          try clear c44
          try clear c46
          try clear c46b0
          try clear c46b1
          try clear c47
          try clear c49
          try clear c49b0
          try clear c49b1
          try clear c50
          try clear c52
          try clear hcz10_0
          try clear hcz10_1
          try clear hcz11_0
          try clear hcz11_1
          try clear hcz11_2
          try clear hcz11_3
          try clear hcz13_0
          try clear hcz13_1
          try clear hcz13_2
          try clear hcz13_3
          try clear hcz18_0
          try clear hcz18_1
          try clear hcz19_0
          try clear hcz19_1
          try clear hcz19_2
          try clear hcz19_3
          try clear hcz21_0
          try clear hcz21_1
          try clear hcz21_2
          try clear hcz21_3
          try clear hcz25_0
          try clear hcz25_1
          try clear hcz25_2
          try clear hcz25_3
          try clear hcz27_0
          try clear hcz27_1
          try clear hcz27_2
          try clear hcz27_3
          try clear hcz29_0
          try clear hcz29_1
          try clear hcz29_2
          try clear hcz29_3
          try clear hcz34_0
          try clear hcz34_1
          try clear hcz34_2
          try clear hcz34_3
          try clear hcz37_0
          try clear hcz37_1
          try clear hcz37_2
          try clear hcz37_3
          try clear hcz38_0
          try clear hcz38_1
          try clear hcz40_0
          try clear hcz40_1
          try clear hcz40_2
          try clear hcz40_3
          try clear hcz45_0
          try clear hcz45_1
          try clear hcz45_2
          try clear hcz45_3
          try clear hcz48_0
          try clear hcz48_1
          try clear hcz48_2
          try clear hcz48_3
          try clear hcz51_0
          try clear hcz51_1
          try clear hcz51_2
          try clear hcz51_3
          try clear hcz53_0
          try clear hcz53_1
          try clear hcz53_2
          try clear hcz53_3
          try clear hfz10_0
          try clear hfz10_1
          try clear hfz11_0
          try clear hfz11_1
          try clear hfz11_2
          try clear hfz11_3
          try clear hfz13_0
          try clear hfz13_1
          try clear hfz13_2
          try clear hfz13_3
          try clear hfz18_0
          try clear hfz18_1
          try clear hfz19_0
          try clear hfz19_1
          try clear hfz19_2
          try clear hfz19_3
          try clear hfz21_0
          try clear hfz21_1
          try clear hfz21_2
          try clear hfz21_3
          try clear hfz25_0
          try clear hfz25_1
          try clear hfz25_2
          try clear hfz25_3
          try clear hfz27_0
          try clear hfz27_1
          try clear hfz27_2
          try clear hfz27_3
          try clear hfz29_0
          try clear hfz29_1
          try clear hfz29_2
          try clear hfz29_3
          try clear hfz34_0
          try clear hfz34_1
          try clear hfz34_2
          try clear hfz34_3
          try clear hfz37_0
          try clear hfz37_1
          try clear hfz37_2
          try clear hfz37_3
          try clear hfz38_0
          try clear hfz38_1
          try clear hfz40_0
          try clear hfz40_1
          try clear hfz40_2
          try clear hfz40_3
          try clear hfz45_0
          try clear hfz45_1
          try clear hfz45_2
          try clear hfz45_3
          try clear hfz48_0
          try clear hfz48_1
          try clear hfz48_2
          try clear hfz48_3
          try clear hfz51_0
          try clear hfz51_1
          try clear hfz51_2
          try clear hfz51_3
          try clear hfz53_0
          try clear hfz53_1
          try clear hfz53_2
          try clear hfz53_3
          try clear p2
          obtain ⟨kq, x53_41, rfl, HA, HJ41, BK151, BK152, HB⟩ := hcut
          cases kq with
          | zero => exact absurd HA.out (by simp [pollardref13_why.j2])
          | succ kj41 =>
           have H := HA.out
           clear HA
           simp only [pollardref13_why.j2] at H
           by_cases c54 : x53_41 = true
           · subst c54
             have H1 := H
             rw [if_pos rfl] at H1
             clear H
             have H := H1
             clear H1
             obtain rfl := Option.some.inj H
             go_wp2
             go_ret
             exact ⟨xz_, bs2_ GE151.out GE152.out⟩
           ·
            replace c54 := Bool.eq_false_iff.mpr c54
            subst c54
            have H1 := H
            rw [if_neg (show ¬ (false = true) by decide)] at H1
            clear H
            have H := H1
            clear H1
            replace H := Option.bind_eq_some_iff.mp H
            obtain ⟨t155, A550, H⟩ := H
            try dsimp only at H
            have A55 := Aside0.mk A550
            clear A550
            by_cases c56 : t155 = 2
            ·
             rw [if_pos c56] at H
             have c56b0 : (t155 == 2) = true := beq_iff_eq.mpr c56
             have c56b1 : (t155 != 2) = false := bne_eq_false_iff_eq.mpr c56
             clear c56
             obtain rfl := Option.some.inj H
             have hnb57 := NB152_151.out
             have hnc57 := NB151_152.out
             have hcz58_0 : wc.cell? ⟨gb152, 0, none⟩ = some (.string a1_0) := (blk_cell BK152.out 0).trans rfl
             have hcz58_1 : wc.cell? ⟨gb152, 1, none⟩ = some (.string a1_1) := (blk_cell BK152.out 1).trans rfl
             have hcz58_2 : wc.cell? ⟨gb152, 2, none⟩ = some (.string a1_2) := (blk_cell BK152.out 2).trans rfl
             have hcz58_3 : wc.cell? ⟨gb152, 3, none⟩ = some (.bool a1_3) := (blk_cell BK152.out 3).trans rfl
             have hfz58_0 := blk_frozen BK152.out 0
             have hfz58_1 := blk_frozen BK152.out 1
             have hfz58_2 := blk_frozen BK152.out 2
             have hfz58_3 := blk_frozen BK152.out 3
             go_wp2_with (first | ((with_reducible refine gate_callee (f := 31) rfl ?_); refine goesM_ (some 74) Try.func31 #[.string a1_0] ?_; (with_reducible refine (pollardref05_Ref.calls kj41 a1_0 t155 _ A55.out).mono ?_); rintro e w' ⟨rfl, ⟨nd, rfl⟩⟩; refine ⟨_, rfl, ?_⟩))
             go_ret
             exact ⟨xz_, bs2_ GE151.out GE152.out⟩
            ·
             rw [if_neg c56] at H
             have c56b0 : (t155 == 2) = false := beq_eq_false_iff_ne.mpr c56
             have c56b1 : (t155 != 2) = true := bne_iff_ne.mpr c56
             replace H := Option.bind_eq_some_iff.mp H
             obtain ⟨t156, A590, H⟩ := H
             try dsimp only at H
             have A59 := Aside0.mk A590
             clear A590
             by_cases c60 : t156 = true
             ·
              subst c60
              have H1 := H
              rw [if_pos rfl] at H1
              clear H
              have H := H1
              clear H1
              obtain rfl := Option.some.inj H
              have hnb61 := NB152_151.out
              have hnc61 := NB151_152.out
              have hcz62_0 : wc.cell? ⟨gb152, 0, none⟩ = some (.string a1_0) := (blk_cell BK152.out 0).trans rfl
              have hcz62_1 : wc.cell? ⟨gb152, 1, none⟩ = some (.string a1_1) := (blk_cell BK152.out 1).trans rfl
              have hcz62_2 : wc.cell? ⟨gb152, 2, none⟩ = some (.string a1_2) := (blk_cell BK152.out 2).trans rfl
              have hcz62_3 : wc.cell? ⟨gb152, 3, none⟩ = some (.bool a1_3) := (blk_cell BK152.out 3).trans rfl
              have hfz62_0 := blk_frozen BK152.out 0
              have hfz62_1 := blk_frozen BK152.out 1
              have hfz62_2 := blk_frozen BK152.out 2
              have hfz62_3 := blk_frozen BK152.out 3
              go_wp2_with (first | ((with_reducible refine gate_callee (f := 31) rfl ?_); refine goesM_ (some 74) Try.func31 #[.string a1_0] ?_; (with_reducible refine (pollardref05_Ref.calls kj41 a1_0 t155 _ A55.out).mono ?_); rintro e w' ⟨rfl, ⟨nd, rfl⟩⟩; refine ⟨_, rfl, ?_⟩) | ((with_reducible refine gate_callee (f := 10) rfl ?_); refine goesM_ (some 81) Try.func10 #[.slice A2 l2.length c2, .string t153, .string a1_2] ?_; (with_reducible refine (pollardref13_Ways_Forward.calls kj41 _ _ l2 t153 a1_2 true _ ?side1 ?side2 A59.out).mono ?_); (case side1 => repeat (first | exact (Kd.C_below HR2.out (bs2_ GE151.out GE152.out)) | (with_reducible refine Kd.C_alloc ?_ _) | (with_reducible refine Kd.C_drewN ?_ _) | (with_reducible refine Kd.C_drew ?_))); (case side2 => exact HC2.out); rintro e w' ⟨rfl, ⟨nd, rfl⟩⟩; refine ⟨_, rfl, ?_⟩))
              go_ret
              exact ⟨xz_, bs2_ GE151.out GE152.out⟩
             ·
              replace c60 := Bool.eq_false_iff.mpr c60
              subst c60
              have H1 := H
              rw [if_neg (show ¬ (false = true) by decide)] at H1
              clear H
              have H := H1
              clear H1
              obtain rfl := Option.some.inj H
              have hnb63 := NB152_151.out
              have hnc63 := NB151_152.out
              have hcz64_0 : wc.cell? ⟨gb152, 0, none⟩ = some (.string a1_0) := (blk_cell BK152.out 0).trans rfl
              have hcz64_1 : wc.cell? ⟨gb152, 1, none⟩ = some (.string a1_1) := (blk_cell BK152.out 1).trans rfl
              have hcz64_2 : wc.cell? ⟨gb152, 2, none⟩ = some (.string a1_2) := (blk_cell BK152.out 2).trans rfl
              have hcz64_3 : wc.cell? ⟨gb152, 3, none⟩ = some (.bool a1_3) := (blk_cell BK152.out 3).trans rfl
              have hfz64_0 := blk_frozen BK152.out 0
              have hfz64_1 := blk_frozen BK152.out 1
              have hfz64_2 := blk_frozen BK152.out 2
              have hfz64_3 := blk_frozen BK152.out 3
              go_wp2_with (first | ((with_reducible refine gate_callee (f := 31) rfl ?_); refine goesM_ (some 74) Try.func31 #[.string a1_0] ?_; (with_reducible refine (pollardref05_Ref.calls kj41 a1_0 t155 _ A55.out).mono ?_); rintro e w' ⟨rfl, ⟨nd, rfl⟩⟩; refine ⟨_, rfl, ?_⟩) | ((with_reducible refine gate_callee (f := 10) rfl ?_); refine goesM_ (some 81) Try.func10 #[.slice A2 l2.length c2, .string t153, .string a1_2] ?_; (with_reducible refine (pollardref13_Ways_Forward.calls kj41 _ _ l2 t153 a1_2 false _ ?side1 ?side2 A59.out).mono ?_); (case side1 => repeat (first | exact (Kd.C_below HR2.out (bs2_ GE151.out GE152.out)) | (with_reducible refine Kd.C_alloc ?_ _) | (with_reducible refine Kd.C_drewN ?_ _) | (with_reducible refine Kd.C_drew ?_))); (case side2 => exact HC2.out); rintro e w' ⟨rfl, ⟨nd, rfl⟩⟩; refine ⟨_, rfl, ?_⟩))
              go_ret
              exact ⟨xz_, bs2_ GE151.out GE152.out⟩
     ·
      rw [if_neg c31] at H
      have c31b0 : (t153.toList == a1_1.toList) = false := beq_eq_false_iff_ne.mpr c31
      have c31b1 : (t153.toList != a1_1.toList) = true := bne_iff_ne.mpr c31
      obtain rfl := Option.some.inj H
      have hnb65 := NB152_151.out
      have hnc65 := NB151_152.out
      have hcz66_0 : wc.cell? ⟨gb152, 0, none⟩ = some (.string a1_0) := (blk_cell BK152.out 0).trans rfl
      have hcz66_1 : wc.cell? ⟨gb152, 1, none⟩ = some (.string a1_1) := (blk_cell BK152.out 1).trans rfl
      have hcz66_2 : wc.cell? ⟨gb152, 2, none⟩ = some (.string a1_2) := (blk_cell BK152.out 2).trans rfl
      have hcz66_3 : wc.cell? ⟨gb152, 3, none⟩ = some (.bool a1_3) := (blk_cell BK152.out 3).trans rfl
      have hfz66_0 := blk_frozen BK152.out 0
      have hfz66_1 := blk_frozen BK152.out 1
      have hfz66_2 := blk_frozen BK152.out 2
      have hfz66_3 := blk_frozen BK152.out 3
      go_wp2
      go_ret
      exact ⟨xz_, bs2_ GE151.out GE152.out⟩

end Go.Proofs.Ytgepbdkbleapaaa.M
