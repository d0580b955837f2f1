/- The program's functions as plain functions, and that each call comes to what these tell; written by a program of this session, some contracts by hand. Conditions: none. -/
import Derived.Test.YtgepbdkbleapaaaMx0
import Derived.Test.YtgepbdkbleapaaaMx3
import Derived.Test.YtgepbdkbleapaaaMx4
namespace Go.Proofs.Ytgepbdkbleapaaa.M
open Go.RowKit Go.Proofs.YtgepbdkbleapaaaW.PrintWords Go.Proofs.YtgepbdkbleapaaaW.PrintLast Go.Proofs.YtgepbdkbleapaaaW.PrintMore
attribute [local go_sem] max2_int min2_int max_two min_two max_three min_three max_four min_four   -- for this text's walks alone
set_option linter.unusedVariables false
set_option linter.unusedSimpArgs false

/-! ### refs_why: function 26 (given by hand) -/
mutual
def refs_why.j0 : Nat → ByteArray → Bool → ByteArray → List (S50) → ByteArray → ByteArray → ByteArray → Bool → Option (Int)
 | 0, _, _, _, _, _, _, _, _ => none
 | k + 1, x7, x17, x140000, x140001, x141000, x141001, x141002, x141003 => if x17 = true then (some 1) else (if x7.toList = x141001.toList then (if x141002.toList = ([] : List UInt8) then (refs_why.j1 k x7 (x141000.toList == x140000.toList) x141000 x141001 x141002 x141003) else (refs_why.j1 k x7 false x141000 x141001 x141002 x141003)) else (some 130))
def refs_why.j1 : Nat → ByteArray → Bool → ByteArray → ByteArray → ByteArray → Bool → Option (Int)
 | 0, _, _, _, _, _, _ => none
 | k + 1, x7, x42, x141000, x141001, x141002, x141003 => if x42 = true then (some 132) else (if x141002.toList = ([] : List UInt8) then (refs_why.j2 k x7 true x141000 x141001 x141002 x141003) else (if x7.toList = ([] : List UInt8) then (refs_why.j2 k x7 true x141000 x141001 x141002 x141003) else (if x7.toList = x141002.toList then (refs_why.j2 k x7 true x141000 x141001 x141002 x141003) else (refs_why.j2 k x7 x141003 x141000 x141001 x141002 x141003))))
def refs_why.j2 : Nat → ByteArray → Bool → ByteArray → ByteArray → ByteArray → Bool → Option (Int)
 | 0, _, _, _, _, _, _ => none
 | k + 1, x7, x53, x141000, x141001, x141002, x141003 => if x53 = true then (some 0) else ((label_Head.f x141000).bind fun t143 => (if t143 = true then (none) else (some 133)))
end
def refs_why.f (k : Nat) (a0_0 : ByteArray) (l0_1 : List (S50)) (a1_0 : ByteArray) (a1_1 : ByteArray) (a1_2 : ByteArray) (a1_3 : Bool)  : Option (Int) := (refs_Get.f k a0_0 l0_1 a1_0).bind fun t141 => ((label_Ref.f a1_0).bind fun t142 => (if t142 = true then (if a1_2.toList = ([] : List UInt8) then (refs_why.j0 k t141 (a1_1.toList == ([] : List UInt8)) a0_0 l0_1 a1_0 a1_1 a1_2 a1_3) else (if (a1_2.size : Int) = 32 then (refs_why.j0 k t141 false a0_0 l0_1 a1_0 a1_1 a1_2 a1_3) else (refs_why.j0 k t141 true a0_0 l0_1 a1_0 a1_1 a1_2 a1_3))) else (some 50)))
theorem refs_why.mono_l : ∀ k, (∀ y0 y1 y2 y3 y4 y5 y6 y7, LeO (refs_why.j0 k y0 y1 y2 y3 y4 y5 y6 y7) (refs_why.j0 (k + 1) y0 y1 y2 y3 y4 y5 y6 y7)) ∧ (∀ y0 y1 y2 y3 y4 y5, LeO (refs_why.j1 k y0 y1 y2 y3 y4 y5) (refs_why.j1 (k + 1) y0 y1 y2 y3 y4 y5)) ∧ (∀ y0 y1 y2 y3 y4 y5, LeO (refs_why.j2 k y0 y1 y2 y3 y4 y5) (refs_why.j2 (k + 1) y0 y1 y2 y3 y4 y5))
 | 0 => ⟨fun _ _ _ _ _ _ _ _ r h => by simp [refs_why.j0] at h, fun _ _ _ _ _ _ r h => by simp [refs_why.j1] at h, fun _ _ _ _ _ _ r h => by simp [refs_why.j2] at h⟩
 | k + 1 => by
  obtain ⟨ih0, ih1, ih2⟩ := refs_why.mono_l k
  refine ⟨?_, ?_, ?_⟩
  all_goals (intros; first | unfold refs_why.j0 | unfold refs_why.j1 | unfold refs_why.j2)
  all_goals repeat' with_reducible first | exact ih0 _ _ _ _ _ _ _ _ | exact ih1 _ _ _ _ _ _ | exact ih2 _ _ _ _ _ _ | exact refs_Get.mono _ _ _ _ | exact LeO.refl _ | exact LeO.none _ | refine LeO.ite ?_ ?_ | refine LeO.bind ?_ (fun _ => ?_)
theorem refs_why.mono : ∀ a0 a1 a2 a3 a4 a5 k, LeO (refs_why.f k a0 a1 a2 a3 a4 a5) (refs_why.f (k + 1) a0 a1 a2 a3 a4 a5) := by
 intro a0 a1 a2 a3 a4 a5 k
 obtain ⟨ih0, ih1, ih2⟩ := refs_why.mono_l k
 unfold refs_why.f
 repeat' with_reducible first | exact ih0 _ _ _ _ _ _ _ _ | exact ih1 _ _ _ _ _ _ | exact ih2 _ _ _ _ _ _ | exact refs_Get.mono _ _ _ _ | exact LeO.refl _ | exact LeO.none _ | refine LeO.ite ?_ ?_ | refine LeO.bind ?_ (fun _ => ?_)
set_option maxHeartbeats 8000000 in
set_option maxRecDepth 100000 in
theorem refs_why.calls (k : Nat) (a0_0 : ByteArray) (A0_1 : Option Addr) (c0_1 : Nat) (l0_1 : List (S50)) (a1_0 : ByteArray) (a1_1 : ByteArray) (a1_2 : ByteArray) (a1_3 : Bool)  (r : Int) (w : World) (hr0_1 : Kd.C k50 w A0_1 l0_1.length l0_1) (hc0_1 : l0_1.length ≤ c0_1) {fv : Value} (h : refs_why.f k a0_0 l0_1 a1_0 a1_1 a1_2 a1_3 = some r) :
 Calls Try.prog 26 #[.agg #[.string a0_0, .slice A0_1 l0_1.length c0_1], .agg #[.string a1_0, .string a1_1, .string a1_2, .bool a1_3], fv] w fun e w' => e = .returned (.int .i64 r) ∧ Below w.heap.size w w' := by
 have hu24 := Try.underlying24
 have hu34 := Try.underlying34
 have HR0_1 := Aside0.mk hr0_1
 have HC0_1 := Aside0.mk hc0_1
 clear hr0_1 hc0_1
 have HB := Aside0.mk (Below.refl w.heap.size w)
 have H : ((refs_Get.f k a0_0 l0_1 a1_0).bind fun t141 => ((label_Ref.f a1_0).bind fun t142 => (if t142 = true then (if a1_2.toList = ([] : List UInt8) then (refs_why.j0 k t141 (a1_1.toList == ([] : List UInt8)) a0_0 l0_1 a1_0 a1_1 a1_2 a1_3) else (if (a1_2.size : Int) = 32 then (refs_why.j0 k t141 false a0_0 l0_1 a1_0 a1_1 a1_2 a1_3) else (refs_why.j0 k t141 true a0_0 l0_1 a1_0 a1_1 a1_2 a1_3))) else (some 50)))) = some r := h
 clear h
 replace H := Option.bind_eq_some_iff.mp H
 obtain ⟨t141, A40, H⟩ := H
 try dsimp only at H
 have A4 := Aside0.mk A40
 clear A40
 replace H := Option.bind_eq_some_iff.mp H
 obtain ⟨t142, A50, H⟩ := H
 try dsimp only at H
 have A5 := Aside0.mk A50
 clear A50
 by_cases c6 : t142 = true
 ·
  subst c6
  have H1 := H
  rw [if_pos rfl] at H1
  clear H
  have H := H1
  clear H1
  have HC7 := Aside0.mk H
  clear H
  go_enter Try.func26, Try.ntmps26
  go_upto_region 4 with (first | ((with_reducible refine gate_dst (N := 3) rfl ?_); (try (refine gate_guard (by rfl) ?_; dsimp only)); refine box_event ?hg (N := 3) ?hd (cs := #[.string a0_0, .slice A0_1 l0_1.length c0_1]) (t := 24) ?hr ?_; (case hd => rfl); (case hg => rfl); (case hr => first | (go_simp; done) | (go_simp; rfl)); intro gb139 hg w8 hbox hb; have n0_ := Aside0.mk (below_step bz_ hb); have n1_ := Aside0.mk (hbox); have n2_ := Aside0.mk ((by rw [hg]; exact (below_size bz_) : w.heap.size ≤ gb139)); have n3_ := Aside0.mk ((by rw [hg]; exact (below_size bz_) : w.heap.size ≤ gb139)); clear HB; have HB := n0_; have BK139 := n1_; have GW139 := n2_; have GE139 := n3_; clear n0_ n1_ n2_ n3_; clear hb hbox hg) | ((with_reducible refine gate_dst (N := 4) rfl ?_); (try (refine gate_guard (by rfl) ?_; dsimp only)); refine box_event ?hg (N := 4) ?hd (cs := #[.string a1_0, .string a1_1, .string a1_2, .bool a1_3]) (t := 34) ?hr ?_; (case hd => rfl); (case hg => rfl); (case hr => first | (go_simp; done) | (go_simp; rfl)); intro gb140 hg w9 hbox hb; have n0_ := Aside0.mk (blk_below (g := gb139) (o := .cells #[.string a0_0, .slice A0_1 l0_1.length c0_1] 24 (0, 0)) (kz_ BK139.out) hb); have n1_ := Aside0.mk (below_step (bs1_ GE139.out) hb); have n2_ := Aside0.mk (hbox); have n3_ := Aside0.mk ((by rw [hg]; exact (below_size (bs1_ GE139.out)) : w.heap.size ≤ gb140)); have n4_ := Aside0.mk ((by rw [hg]; exact (below_size (bs1_ GE139.out)) : w.heap.size ≤ gb140)); have n5_ := Aside0.mk ((by rw [hg]; exact Nat.ne_of_lt (blk_lt (g := gb139) (o := .cells #[.string a0_0, .slice A0_1 l0_1.length c0_1] 24 (0, 0)) (kz_ BK139.out)) : gb139 ≠ gb140)); have n6_ := Aside0.mk ((by rw [hg]; exact Nat.ne_of_gt (blk_lt (g := gb139) (o := .cells #[.string a0_0, .slice A0_1 l0_1.length c0_1] 24 (0, 0)) (kz_ BK139.out)) : gb140 ≠ gb139)); clear BK139; clear HB; have BK139 := n0_; have HB := n1_; have BK140 := n2_; have GW140 := n3_; have GE140 := n4_; have NB139_140 := n5_; have NB140_139 := n6_; clear n0_ n1_ n2_ n3_ n4_ n5_ n6_; clear hb hbox hg; have hnb10 := NB139_140.out; have hnc10 := NB140_139.out; have hcz11_0 : w9.cell? ⟨gb139, 0, none⟩ = some (.string a0_0) := (blk_cell BK139.out 0).trans rfl; have hcz11_1 : w9.cell? ⟨gb139, 1, none⟩ = some (.slice A0_1 l0_1.length c0_1) := (blk_cell BK139.out 1).trans rfl; have hfz11_0 := blk_frozen BK139.out 0; have hfz11_1 := blk_frozen BK139.out 1; have hcz12_0 : w9.cell? ⟨gb140, 0, none⟩ = some (.string a1_0) := (blk_cell BK140.out 0).trans rfl; have hcz12_1 : w9.cell? ⟨gb140, 1, none⟩ = some (.string a1_1) := (blk_cell BK140.out 1).trans rfl; have hcz12_2 : w9.cell? ⟨gb140, 2, none⟩ = some (.string a1_2) := (blk_cell BK140.out 2).trans rfl; have hcz12_3 : w9.cell? ⟨gb140, 3, none⟩ = some (.bool a1_3) := (blk_cell BK140.out 3).trans rfl; have hfz12_0 := blk_frozen BK140.out 0; have hfz12_1 := blk_frozen BK140.out 1; have hfz12_2 := blk_frozen BK140.out 2; have hfz12_3 := blk_frozen BK140.out 3) | ((with_reducible refine gate_callee (f := 21) rfl ?_); refine goesM_ (some 11) Try.func21 #[.agg #[.string a0_0, .slice A0_1 l0_1.length c0_1], .string a1_0] ?_; (with_reducible refine (refs_Get.calls k a0_0 _ _ l0_1 a1_0 t141 _ ?side1 ?side2 A4.out).mono ?_); (case side1 => repeat (first | exact (Kd.C_below HR0_1.out HB.out) | (with_reducible refine Kd.C_alloc ?_ _) | (with_reducible refine Kd.C_drewN ?_ _) | (with_reducible refine Kd.C_drew ?_))); (case side2 => exact HC0_1.out); rintro e w13 ⟨rfl, hb⟩; refine ⟨_, rfl, ?_⟩; have n0_ := Aside0.mk (blk_below (g := gb139) (o := .cells #[.string a0_0, .slice A0_1 l0_1.length c0_1] 24 (0, 0)) (kz_ BK139.out) hb); have n1_ := Aside0.mk (blk_below (g := gb140) (o := .cells #[.string a1_0, .string a1_1, .string a1_2, .bool a1_3] 34 (0, 0)) (kz_ BK140.out) hb); have n2_ := Aside0.mk (below_step (bs2_ GE139.out GE140.out) hb); clear BK139; clear BK140; clear HB; have BK139 := n0_; have BK140 := n1_; have HB := n2_; clear n0_ n1_ n2_; (try clear hb); (try clear hb2); (try clear hk); (try clear hi); have hcz14_0 : w13.cell? ⟨gb140, 0, none⟩ = some (.string a1_0) := (blk_cell BK140.out 0).trans rfl; have hcz14_1 : w13.cell? ⟨gb140, 1, none⟩ = some (.string a1_1) := (blk_cell BK140.out 1).trans rfl; have hcz14_2 : w13.cell? ⟨gb140, 2, none⟩ = some (.string a1_2) := (blk_cell BK140.out 2).trans rfl; have hcz14_3 : w13.cell? ⟨gb140, 3, none⟩ = some (.bool a1_3) := (blk_cell BK140.out 3).trans rfl; have hfz14_0 := blk_frozen BK140.out 0; have hfz14_1 := blk_frozen BK140.out 1; have hfz14_2 := blk_frozen BK140.out 2; have hfz14_3 := blk_frozen BK140.out 3) | ((with_reducible refine gate_callee (f := 34) rfl ?_); refine goesM_ (some 15) Try.func34 #[.string a1_0] ?_; (with_reducible refine (label_Ref.calls a1_0 true _ A5.out).mono ?_); rintro e w15 ⟨rfl, hb⟩; refine ⟨_, rfl, ?_⟩; have n0_ := Aside0.mk (blk_below (g := gb139) (o := .cells #[.string a0_0, .slice A0_1 l0_1.length c0_1] 24 (0, 0)) (kz_ BK139.out) hb); have n1_ := Aside0.mk (blk_below (g := gb140) (o := .cells #[.string a1_0, .string a1_1, .string a1_2, .bool a1_3] 34 (0, 0)) (kz_ BK140.out) hb); have n2_ := Aside0.mk (below_step (bs2_ GE139.out GE140.out) hb); clear BK139; clear BK140; clear HB; have BK139 := n0_; have BK140 := n1_; have HB := n2_; clear n0_ n1_ n2_; (try clear hb); (try clear hb2); (try clear hk); (try clear hi)))
  (try simp only [Act.put, List.setIfInBounds_toArray, List.set_cons_zero, List.set_cons_succ])
  go_cut [17] (fun v17 wc => ∃ (kq : Nat) (x17_6 : Bool), v17 = .bool x17_6 ∧ Aside0 (refs_why.j0 kq t141 x17_6 a0_0 l0_1 a1_0 a1_1 a1_2 a1_3 = some r) ∧ Aside0 (kq ≤ k) ∧ Aside0 (wc.heap[gb139]? = some (.cells #[.string a0_0, (.slice A0_1 l0_1.length c0_1)] 24 (0, 0))) ∧ Aside0 (wc.heap[gb140]? = some (.cells #[.string a1_0, .string a1_1, .string a1_2, .bool a1_3] 34 (0, 0))) ∧ Aside0 (Below w.heap.size w wc))
  case first =>
   have H := HC7.out
   clear HC7
   by_cases c16 : a1_2.toList = ([] : List UInt8)
   ·
    rw [if_pos c16] at H
    have c16b0 : (a1_2.toList == ([] : List UInt8)) = true := beq_iff_eq.mpr c16
    have c16b1 : (a1_2.toList != ([] : List UInt8)) = false := bne_eq_false_iff_eq.mpr c16
    clear c16
    (first | rw [c16b0] | (simp only [i64_w, i32_w]; rw [c16b0]) | skip)
    have H' := Aside0.mk H
    clear H
    have hnb17 := NB140_139.out
    have hnc17 := NB139_140.out
    have hcz18_0 : w15.cell? ⟨gb140, 0, none⟩ = some (.string a1_0) := (blk_cell BK140.out 0).trans rfl
    have hcz18_1 : w15.cell? ⟨gb140, 1, none⟩ = some (.string a1_1) := (blk_cell BK140.out 1).trans rfl
    have hcz18_2 : w15.cell? ⟨gb140, 2, none⟩ = some (.string a1_2) := (blk_cell BK140.out 2).trans rfl
    have hcz18_3 : w15.cell? ⟨gb140, 3, none⟩ = some (.bool a1_3) := (blk_cell BK140.out 3).trans rfl
    have hfz18_0 := blk_frozen BK140.out 0
    have hfz18_1 := blk_frozen BK140.out 1
    have hfz18_2 := blk_frozen BK140.out 2
    have hfz18_3 := blk_frozen BK140.out 3
    go_wp2
    go_meet
    case rel => exact ⟨_, ((a1_1.toList == ([] : List UInt8))), ez_, H', ⟨by first | omega | exact Nat.le_refl _⟩, ⟨kz_ BK139.out⟩, ⟨kz_ BK140.out⟩, ⟨bs2_ GE139.out GE140.out⟩⟩
   ·
    rw [if_neg c16] at H
    have c16b0 : (a1_2.toList == ([] : List UInt8)) = false := beq_eq_false_iff_ne.mpr c16
    have c16b1 : (a1_2.toList != ([] : List UInt8)) = true := bne_iff_ne.mpr c16
    (first | rw [c16b0] | (simp only [i64_w, i32_w]; rw [c16b0]) | skip)
    by_cases c19 : (a1_2.size : Int) = 32
    ·
     rw [if_pos c19] at H
     have c19b0 : ((a1_2.size : Int) == 32) = true := beq_iff_eq.mpr c19
     have c19b1 : ((a1_2.size : Int) != 32) = false := bne_eq_false_iff_eq.mpr c19
     clear c19
     have H' := Aside0.mk H
     clear H
     have hnb20 := NB140_139.out
     have hnc20 := NB139_140.out
     have hcz21_0 : w15.cell? ⟨gb140, 0, none⟩ = some (.string a1_0) := (blk_cell BK140.out 0).trans rfl
     have hcz21_1 : w15.cell? ⟨gb140, 1, none⟩ = some (.string a1_1) := (blk_cell BK140.out 1).trans rfl
     have hcz21_2 : w15.cell? ⟨gb140, 2, none⟩ = some (.string a1_2) := (blk_cell BK140.out 2).trans rfl
     have hcz21_3 : w15.cell? ⟨gb140, 3, none⟩ = some (.bool a1_3) := (blk_cell BK140.out 3).trans rfl
     have hfz21_0 := blk_frozen BK140.out 0
     have hfz21_1 := blk_frozen BK140.out 1
     have hfz21_2 := blk_frozen BK140.out 2
     have hfz21_3 := blk_frozen BK140.out 3
     go_wp2
     go_meet
     case rel => exact ⟨_, (false), ez_, H', ⟨by first | omega | exact Nat.le_refl _⟩, ⟨kz_ BK139.out⟩, ⟨kz_ BK140.out⟩, ⟨bs2_ GE139.out GE140.out⟩⟩
    ·
     rw [if_neg c19] at H
     have c19b0 : ((a1_2.size : Int) == 32) = false := beq_eq_false_iff_ne.mpr c19
     have c19b1 : ((a1_2.size : Int) != 32) = true := bne_iff_ne.mpr c19
     have H' := Aside0.mk H
     clear H
     have hnb22 := NB140_139.out
     have hnc22 := NB139_140.out
     have hcz23_0 : w15.cell? ⟨gb140, 0, none⟩ = some (.string a1_0) := (blk_cell BK140.out 0).trans rfl
     have hcz23_1 : w15.cell? ⟨gb140, 1, none⟩ = some (.string a1_1) := (blk_cell BK140.out 1).trans rfl
     have hcz23_2 : w15.cell? ⟨gb140, 2, none⟩ = some (.string a1_2) := (blk_cell BK140.out 2).trans rfl
     have hcz23_3 : w15.cell? ⟨gb140, 3, none⟩ = some (.bool a1_3) := (blk_cell BK140.out 3).trans rfl
     have hfz23_0 := blk_frozen BK140.out 0
     have hfz23_1 := blk_frozen BK140.out 1
     have hfz23_2 := blk_frozen BK140.out 2
     have hfz23_3 := blk_frozen BK140.out 3
     go_wp2
     go_meet
     case rel => exact ⟨_, (true), ez_, H', ⟨by first | omega | exact Nat.le_refl _⟩, ⟨kz_ BK139.out⟩, ⟨kz_ BK140.out⟩, ⟨bs2_ GE139.out GE140.out⟩⟩
  case rest =>
   clear HC7
   try clear c1
   try clear c2
   try clear p2
   try clear c3
   try clear c6
   try clear c10
   try clear c16
   try clear c16b0
   try clear c16b1
   try clear c17
   try clear c19
   try clear c19b0
   try clear c19b1
   try clear c20
   try clear c21
   try clear c22
   try clear hcz11_0
   try clear hcz11_1
   try clear hcz12_0
   try clear hcz12_1
   try clear hcz12_2
   try clear hcz12_3
   try clear hcz14_0
   try clear hcz14_1
   try clear hcz14_2
   try clear hcz14_3
   try clear hcz18_0
   try clear hcz18_1
   try clear hcz18_2
   try clear hcz18_3
   try clear hcz21_0
   try clear hcz21_1
   try clear hcz21_2
   try clear hcz21_3
   try clear hcz23_0
   try clear hcz23_1
   try clear hcz23_2
   try clear hcz23_3
   try clear hfz11_0
   try clear hfz11_1
   try clear hfz12_0
   try clear hfz12_1
   try clear hfz12_2
   try clear hfz12_3
   try clear hfz14_0
   try clear hfz14_1
   try clear hfz14_2
   try clear hfz14_3
   try clear hfz18_0
   try clear hfz18_1
   try clear hfz18_2
   try clear hfz18_3
   try clear hfz21_0
   try clear hfz21_1
   try clear hfz21_2
   try clear hfz21_3
   try clear hfz23_0
   try clear hfz23_1
   try clear hfz23_2
   try clear hfz23_3
   obtain ⟨kq, x17_6, rfl, HA, HJ6, BK139, BK140, HB⟩ := hcut
   cases kq with
   | zero => exact absurd HA.out (by simp [refs_why.j0])
   | succ kj6 =>
    have H := HA.out
    clear HA
    simp only [refs_why.j0] at H
    by_cases c24 : x17_6 = true
    · subst c24
      have H1 := H
      rw [if_pos rfl] at H1
      clear H
      have H := H1
      clear H1
      obtain rfl := Option.some.inj H
      go_wp2
      go_ret
      exact ⟨xz_, bs2_ GE139.out GE140.out⟩
    ·
     replace c24 := Bool.eq_false_iff.mpr c24
     subst c24
     have H1 := H
     rw [if_neg (show ¬ (false = true) by decide)] at H1
     clear H
     have H := H1
     clear H1
     by_cases c25 : t141.toList = a1_1.toList
     ·
      rw [if_pos c25] at H
      have c25b0 : (t141.toList == a1_1.toList) = true := beq_iff_eq.mpr c25
      have c25b1 : (t141.toList != a1_1.toList) = false := bne_eq_false_iff_eq.mpr c25
      clear c25
      have HC26 := Aside0.mk H
      clear H
      have hnb27 := NB140_139.out
      have hnc27 := NB139_140.out
      have hcz28_0 : wc.cell? ⟨gb140, 0, none⟩ = some (.string a1_0) := (blk_cell BK140.out 0).trans rfl
      have hcz28_1 : wc.cell? ⟨gb140, 1, none⟩ = some (.string a1_1) := (blk_cell BK140.out 1).trans rfl
      have hcz28_2 : wc.cell? ⟨gb140, 2, none⟩ = some (.string a1_2) := (blk_cell BK140.out 2).trans rfl
      have hcz28_3 : wc.cell? ⟨gb140, 3, none⟩ = some (.bool a1_3) := (blk_cell BK140.out 3).trans rfl
      have hfz28_0 := blk_frozen BK140.out 0
      have hfz28_1 := blk_frozen BK140.out 1
      have hfz28_2 := blk_frozen BK140.out 2
      have hfz28_3 := blk_frozen BK140.out 3
      go_upto_region 8 with (fail)
      go_cut [42] (fun v42 wc => ∃ (kq : Nat) (x42_25 : Bool), v42 = .bool x42_25 ∧ Aside0 (refs_why.j1 kq t141 x42_25 a1_0 a1_1 a1_2 a1_3 = some r) ∧ Aside0 (kq ≤ kj6) ∧ Aside0 (wc.heap[gb139]? = some (.cells #[.string a0_0, (.slice A0_1 l0_1.length c0_1)] 24 (0, 0))) ∧ Aside0 (wc.heap[gb140]? = some (.cells #[.string a1_0, .string a1_1, .string a1_2, .bool a1_3] 34 (0, 0))) ∧ Aside0 (Below w.heap.size w wc))
      case first =>
       have H := HC26.out
       clear HC26
       by_cases c29 : a1_2.toList = ([] : List UInt8)
       ·
        rw [if_pos c29] at H
        have c29b0 : (a1_2.toList == ([] : List UInt8)) = true := beq_iff_eq.mpr c29
        have c29b1 : (a1_2.toList != ([] : List UInt8)) = false := bne_eq_false_iff_eq.mpr c29
        clear c29
        (first | rw [c29b0] | (simp only [i64_w, i32_w]; rw [c29b0]) | skip)
        have H' := Aside0.mk H
        clear H
        have hnb30 := NB140_139.out
        have hnc30 := NB139_140.out
        have hcz31_0 : wc.cell? ⟨gb140, 0, none⟩ = some (.string a1_0) := (blk_cell BK140.out 0).trans rfl
        have hcz31_1 : wc.cell? ⟨gb140, 1, none⟩ = some (.string a1_1) := (blk_cell BK140.out 1).trans rfl
        have hcz31_2 : wc.cell? ⟨gb140, 2, none⟩ = some (.string a1_2) := (blk_cell BK140.out 2).trans rfl
        have hcz31_3 : wc.cell? ⟨gb140, 3, none⟩ = some (.bool a1_3) := (blk_cell BK140.out 3).trans rfl
        have hfz31_0 := blk_frozen BK140.out 0
        have hfz31_1 := blk_frozen BK140.out 1
        have hfz31_2 := blk_frozen BK140.out 2
        have hfz31_3 := blk_frozen BK140.out 3
        have hcz32_0 : wc.cell? ⟨gb139, 0, none⟩ = some (.string a0_0) := (blk_cell BK139.out 0).trans rfl
        have hcz32_1 : wc.cell? ⟨gb139, 1, none⟩ = some (.slice A0_1 l0_1.length c0_1) := (blk_cell BK139.out 1).trans rfl
        have hfz32_0 := blk_frozen BK139.out 0
        have hfz32_1 := blk_frozen BK139.out 1
        go_wp2
        go_meet
        case rel => exact ⟨_, ((a1_0.toList == a0_0.toList)), ez_, H', ⟨by have := HJ6.out; first | omega | exact Nat.le_refl _⟩, ⟨kz_ BK139.out⟩, ⟨kz_ BK140.out⟩, ⟨bs2_ GE139.out GE140.out⟩⟩
       ·
        rw [if_neg c29] at H
        have c29b0 : (a1_2.toList == ([] : List UInt8)) = false := beq_eq_false_iff_ne.mpr c29
        have c29b1 : (a1_2.toList != ([] : List UInt8)) = true := bne_iff_ne.mpr c29
        (first | rw [c29b0] | (simp only [i64_w, i32_w]; rw [c29b0]) | skip)
        have H' := Aside0.mk H
        clear H
        have hnb33 := NB140_139.out
        have hnc33 := NB139_140.out
        have hcz34_0 : wc.cell? ⟨gb140, 0, none⟩ = some (.string a1_0) := (blk_cell BK140.out 0).trans rfl
        have hcz34_1 : wc.cell? ⟨gb140, 1, none⟩ = some (.string a1_1) := (blk_cell BK140.out 1).trans rfl
        have hcz34_2 : wc.cell? ⟨gb140, 2, none⟩ = some (.string a1_2) := (blk_cell BK140.out 2).trans rfl
        have hcz34_3 : wc.cell? ⟨gb140, 3, none⟩ = some (.bool a1_3) := (blk_cell BK140.out 3).trans rfl
        have hfz34_0 := blk_frozen BK140.out 0
        have hfz34_1 := blk_frozen BK140.out 1
        have hfz34_2 := blk_frozen BK140.out 2
        have hfz34_3 := blk_frozen BK140.out 3
        go_wp2
        go_meet
        case rel => exact ⟨_, (false), ez_, H', ⟨by have := HJ6.out; first | omega | exact Nat.le_refl _⟩, ⟨kz_ BK139.out⟩, ⟨kz_ BK140.out⟩, ⟨bs2_ GE139.out GE140.out⟩⟩
      case rest =>
       clear HC26
       try clear c1
       try clear c2
       try clear p2
       try clear c3
       try clear c6
       try clear c10
       try clear c16
       try clear c16b0
       try clear c16b1
       try clear c17
       try clear c19
       try clear c19b0
       try clear c19b1
       try clear c20
       try clear c21
       try clear c22
       try clear c24
       try clear c25
       try clear c25b0
       try clear c25b1
       try clear c26
       try clear c27
       try clear c29
       try clear c29b0
       try clear c29b1
       try clear c30
       try clear c33
       try clear c34
       try clear hcz11_0
       try clear hcz11_1
       try clear hcz12_0
       try clear hcz12_1
       try clear hcz12_2
       try clear hcz12_3
       try clear hcz14_0
       try clear hcz14_1
       try clear hcz14_2
       try clear hcz14_3
       try clear hcz18_0
       try clear hcz18_1
       try clear hcz18_2
       try clear hcz18_3
       try clear hcz21_0
       try clear hcz21_1
       try clear hcz21_2
       try clear hcz21_3
       try clear hcz23_0
       try clear hcz23_1
       try clear hcz23_2
       try clear hcz23_3
       try clear hcz28_0
       try clear hcz28_1
       try clear hcz28_2
       try clear hcz28_3
       try clear hcz31_0
       try clear hcz31_1
       try clear hcz31_2
       try clear hcz31_3
       try clear hcz32_0
       try clear hcz32_1
       try clear hcz34_0
       try clear hcz34_1
       try clear hcz34_2
       try clear hcz34_3
       try clear hfz11_0
       try clear hfz11_1
       try clear hfz12_0
       try clear hfz12_1
       try clear hfz12_2
       try clear hfz12_3
       try clear hfz14_0
       try clear hfz14_1
       try clear hfz14_2
       try clear hfz14_3
       try clear hfz18_0
       try clear hfz18_1
       try clear hfz18_2
       try clear hfz18_3
       try clear hfz21_0
       try clear hfz21_1
       try clear hfz21_2
       try clear hfz21_3
       try clear hfz23_0
       try clear hfz23_1
       try clear hfz23_2
       try clear hfz23_3
       try clear hfz28_0
       try clear hfz28_1
       try clear hfz28_2
       try clear hfz28_3
       try clear hfz31_0
       try clear hfz31_1
       try clear hfz31_2
       try clear hfz31_3
       try clear hfz32_0
       try clear hfz32_1
       try clear hfz34_0
       try clear hfz34_1
       try clear hfz34_2
       try clear hfz34_3
       try clear p2
       obtain ⟨kq, x42_25, rfl, HA, HJ25, BK139, BK140, HB⟩ := hcut
       cases kq with
       | zero => exact absurd HA.out (by simp [refs_why.j1])
       | succ kj25 =>
        have H := HA.out
        clear HA
        simp only [refs_why.j1] at H
        by_cases c35 : x42_25 = true
        · subst c35
          have H1 := H
          rw [if_pos rfl] at H1
          clear H
          have H := H1
          clear H1
          obtain rfl := Option.some.inj H
          go_wp2
          go_ret
          exact ⟨xz_, bs2_ GE139.out GE140.out⟩
        ·
         replace c35 := Bool.eq_false_iff.mpr c35
         subst c35
         have H1 := H
         rw [if_neg (show ¬ (false = true) by decide)] at H1
         clear H
         have H := H1
         clear H1
         have HC36 := Aside0.mk H
         clear H
         go_upto_region 10 with (fail)
         go_cut [53] (fun v53 wc => ∃ (kq : Nat) (x53_35 : Bool), v53 = .bool x53_35 ∧ Aside0 (refs_why.j2 kq t141 x53_35 a1_0 a1_1 a1_2 a1_3 = some r) ∧ Aside0 (kq ≤ kj25) ∧ Aside0 (wc.heap[gb139]? = some (.cells #[.string a0_0, (.slice A0_1 l0_1.length c0_1)] 24 (0, 0))) ∧ Aside0 (wc.heap[gb140]? = some (.cells #[.string a1_0, .string a1_1, .string a1_2, .bool a1_3] 34 (0, 0))) ∧ Aside0 (Below w.heap.size w wc))
         case first =>
          have H := HC36.out
          clear HC36
          by_cases c37 : a1_2.toList = ([] : List UInt8)
          ·
           rw [if_pos c37] at H
           have c37b0 : (a1_2.toList == ([] : List UInt8)) = true := beq_iff_eq.mpr c37
           have c37b1 : (a1_2.toList != ([] : List UInt8)) = false := bne_eq_false_iff_eq.mpr c37
           clear c37
           (first | rw [c37b0] | (simp only [i64_w, i32_w]; rw [c37b0]) | skip)
           have H' := Aside0.mk H
           clear H
           have hnb38 := NB140_139.out
           have hnc38 := NB139_140.out
           have hcz39_0 : wc.cell? ⟨gb140, 0, none⟩ = some (.string a1_0) := (blk_cell BK140.out 0).trans rfl
           have hcz39_1 : wc.cell? ⟨gb140, 1, none⟩ = some (.string a1_1) := (blk_cell BK140.out 1).trans rfl
           have hcz39_2 : wc.cell? ⟨gb140, 2, none⟩ = some (.string a1_2) := (blk_cell BK140.out 2).trans rfl
           have hcz39_3 : wc.cell? ⟨gb140, 3, none⟩ = some (.bool a1_3) := (blk_cell BK140.out 3).trans rfl
           have hfz39_0 := blk_frozen BK140.out 0
           have hfz39_1 := blk_frozen BK140.out 1
           have hfz39_2 := blk_frozen BK140.out 2
           have hfz39_3 := blk_frozen BK140.out 3
           go_wp2
           go_meet
           case rel => exact ⟨_, (true), ez_, H', ⟨by have := HJ6.out; have := HJ25.out; first | omega | exact Nat.le_refl _⟩, ⟨kz_ BK139.out⟩, ⟨kz_ BK140.out⟩, ⟨bs2_ GE139.out GE140.out⟩⟩
          ·
           rw [if_neg c37] at H
           have c37b0 : (a1_2.toList == ([] : List UInt8)) = false := beq_eq_false_iff_ne.mpr c37
           have c37b1 : (a1_2.toList != ([] : List UInt8)) = true := bne_iff_ne.mpr c37
           (first | rw [c37b0] | (simp only [i64_w, i32_w]; rw [c37b0]) | skip)
           by_cases c40 : t141.toList = ([] : List UInt8)
           ·
            rw [if_pos c40] at H
            have c40b0 : (t141.toList == ([] : List UInt8)) = true := beq_iff_eq.mpr c40
            have c40b1 : (t141.toList != ([] : List UInt8)) = false := bne_eq_false_iff_eq.mpr c40
            clear c40
            have H' := Aside0.mk H
            clear H
            have hnb41 := NB140_139.out
            have hnc41 := NB139_140.out
            have hcz42_0 : wc.cell? ⟨gb140, 0, none⟩ = some (.string a1_0) := (blk_cell BK140.out 0).trans rfl
            have hcz42_1 : wc.cell? ⟨gb140, 1, none⟩ = some (.string a1_1) := (blk_cell BK140.out 1).trans rfl
            have hcz42_2 : wc.cell? ⟨gb140, 2, none⟩ = some (.string a1_2) := (blk_cell BK140.out 2).trans rfl
            have hcz42_3 : wc.cell? ⟨gb140, 3, none⟩ = some (.bool a1_3) := (blk_cell BK140.out 3).trans rfl
            have hfz42_0 := blk_frozen BK140.out 0
            have hfz42_1 := blk_frozen BK140.out 1
            have hfz42_2 := blk_frozen BK140.out 2
            have hfz42_3 := blk_frozen BK140.out 3
            go_wp2
            go_meet
            case rel => exact ⟨_, (true), ez_, H', ⟨by have := HJ6.out; have := HJ25.out; first | omega | exact Nat.le_refl _⟩, ⟨kz_ BK139.out⟩, ⟨kz_ BK140.out⟩, ⟨bs2_ GE139.out GE140.out⟩⟩
           ·
            rw [if_neg c40] at H
            have c40b0 : (t141.toList == ([] : List UInt8)) = false := beq_eq_false_iff_ne.mpr c40
            have c40b1 : (t141.toList != ([] : List UInt8)) = true := bne_iff_ne.mpr c40
            by_cases c43 : t141.toList = a1_2.toList
            ·
             rw [if_pos c43] at H
             have c43b0 : (t141.toList == a1_2.toList) = true := beq_iff_eq.mpr c43
             have c43b1 : (t141.toList != a1_2.toList) = false := bne_eq_false_iff_eq.mpr c43
             clear c43
             have H' := Aside0.mk H
             clear H
             have hnb44 := NB140_139.out
             have hnc44 := NB139_140.out
             have hcz45_0 : wc.cell? ⟨gb140, 0, none⟩ = some (.string a1_0) := (blk_cell BK140.out 0).trans rfl
             have hcz45_1 : wc.cell? ⟨gb140, 1, none⟩ = some (.string a1_1) := (blk_cell BK140.out 1).trans rfl
             have hcz45_2 : wc.cell? ⟨gb140, 2, none⟩ = some (.string a1_2) := (blk_cell BK140.out 2).trans rfl
             have hcz45_3 : wc.cell? ⟨gb140, 3, none⟩ = some (.bool a1_3) := (blk_cell BK140.out 3).trans rfl
             have hfz45_0 := blk_frozen BK140.out 0
             have hfz45_1 := blk_frozen BK140.out 1
             have hfz45_2 := blk_frozen BK140.out 2
             have hfz45_3 := blk_frozen BK140.out 3
             go_wp2
             go_meet
             case rel => exact ⟨_, (true), ez_, H', ⟨by have := HJ6.out; have := HJ25.out; first | omega | exact Nat.le_refl _⟩, ⟨kz_ BK139.out⟩, ⟨kz_ BK140.out⟩, ⟨bs2_ GE139.out GE140.out⟩⟩
            ·
             rw [if_neg c43] at H
             have c43b0 : (t141.toList == a1_2.toList) = false := beq_eq_false_iff_ne.mpr c43
             have c43b1 : (t141.toList != a1_2.toList) = true := bne_iff_ne.mpr c43
             have H' := Aside0.mk H
             clear H
             have hnb46 := NB140_139.out
             have hnc46 := NB139_140.out
             have hcz47_0 : wc.cell? ⟨gb140, 0, none⟩ = some (.string a1_0) := (blk_cell BK140.out 0).trans rfl
             have hcz47_1 : wc.cell? ⟨gb140, 1, none⟩ = some (.string a1_1) := (blk_cell BK140.out 1).trans rfl
             have hcz47_2 : wc.cell? ⟨gb140, 2, none⟩ = some (.string a1_2) := (blk_cell BK140.out 2).trans rfl
             have hcz47_3 : wc.cell? ⟨gb140, 3, none⟩ = some (.bool a1_3) := (blk_cell BK140.out 3).trans rfl
             have hfz47_0 := blk_frozen BK140.out 0
             have hfz47_1 := blk_frozen BK140.out 1
             have hfz47_2 := blk_frozen BK140.out 2
             have hfz47_3 := blk_frozen BK140.out 3
             go_wp2
             go_meet
             case rel => exact ⟨_, (a1_3), ez_, H', ⟨by have := HJ6.out; have := HJ25.out; first | omega | exact Nat.le_refl _⟩, ⟨kz_ BK139.out⟩, ⟨kz_ BK140.out⟩, ⟨bs2_ GE139.out GE140.out⟩⟩
         case rest =>
          clear HC36
          try clear c1
          try clear c2
          try clear p2
          try clear c3
          try clear c4
          try clear c6
          try clear c10
          try clear c16
          try clear c16b0
          try clear c16b1
          try clear c17
          try clear c19
          try clear c19b0
          try clear c19b1
          try clear c20
          try clear c21
          try clear c22
          try clear c24
          try clear c25
          try clear c25b0
          try clear c25b1
          try clear c26
          try clear c27
          try clear c29
          try clear c29b0
          try clear c29b1
          try clear c30
          try clear c33
          try clear c34
          try clear c35
          try clear c37
          try clear c37b0
          try clear c37b1
          try clear c38
          try clear c40
          try clear c40b0
          try clear c40b1
          try clear c41
          try clear c43
          try clear c43b0
          try clear c43b1
          try clear c44
          try clear c46
          try clear hcz11_0
          try clear hcz11_1
          try clear hcz12_0
          try clear hcz12_1
          try clear hcz12_2
          try clear hcz12_3
          try clear hcz14_0
          try clear hcz14_1
          try clear hcz14_2
          try clear hcz14_3
          try clear hcz18_0
          try clear hcz18_1
          try clear hcz18_2
          try clear hcz18_3
          try clear hcz21_0
          try clear hcz21_1
          try clear hcz21_2
          try clear hcz21_3
          try clear hcz23_0
          try clear hcz23_1
          try clear hcz23_2
          try clear hcz23_3
          try clear hcz28_0
          try clear hcz28_1
          try clear hcz28_2
          try clear hcz28_3
          try clear hcz31_0
          try clear hcz31_1
          try clear hcz31_2
          try clear hcz31_3
          try clear hcz32_0
          try clear hcz32_1
          try clear hcz34_0
          try clear hcz34_1
          try clear hcz34_2
          try clear hcz34_3
          try clear hcz39_0
          try clear hcz39_1
          try clear hcz39_2
          try clear hcz39_3
          try clear hcz42_0
          try clear hcz42_1
          try clear hcz42_2
          try clear hcz42_3
          try clear hcz45_0
          try clear hcz45_1
          try clear hcz45_2
          try clear hcz45_3
          try clear hcz47_0
          try clear hcz47_1
          try clear hcz47_2
          try clear hcz47_3
          try clear hfz11_0
          try clear hfz11_1
          try clear hfz12_0
          try clear hfz12_1
          try clear hfz12_2
          try clear hfz12_3
          try clear hfz14_0
          try clear hfz14_1
          try clear hfz14_2
          try clear hfz14_3
          try clear hfz18_0
          try clear hfz18_1
          try clear hfz18_2
          try clear hfz18_3
          try clear hfz21_0
          try clear hfz21_1
          try clear hfz21_2
          try clear hfz21_3
          try clear hfz23_0
          try clear hfz23_1
          try clear hfz23_2
          try clear hfz23_3
          try clear hfz28_0
          try clear hfz28_1
          try clear hfz28_2
          try clear hfz28_3
          try clear hfz31_0
          try clear hfz31_1
          try clear hfz31_2
          try clear hfz31_3
          try clear hfz32_0
          try clear hfz32_1
          try clear hfz34_0
          try clear hfz34_1
          try clear hfz34_2
          try clear hfz34_3
          try clear hfz39_0
          try clear hfz39_1
          try clear hfz39_2
          try clear hfz39_3
          try clear hfz42_0
          try clear hfz42_1
          try clear hfz42_2
          try clear hfz42_3
          try clear hfz45_0
          try clear hfz45_1
          try clear hfz45_2
          try clear hfz45_3
          try clear hfz47_0
          try clear hfz47_1
          try clear hfz47_2
          try clear hfz47_3
          try clear p2
          obtain ⟨kq, x53_35, rfl, HA, HJ35, BK139, BK140, HB⟩ := hcut
          cases kq with
          | zero => exact absurd HA.out (by simp [refs_why.j2])
          | succ kj35 =>
           have H := HA.out
           clear HA
           simp only [refs_why.j2] at H
           by_cases c48 : x53_35 = true
           · subst c48
             have H1 := H
             rw [if_pos rfl] at H1
             clear H
             have H := H1
             clear H1
             obtain rfl := Option.some.inj H
             go_wp2
             go_ret
             exact ⟨xz_, bs2_ GE139.out GE140.out⟩
           ·
            replace c48 := Bool.eq_false_iff.mpr c48
            subst c48
            have H1 := H
            rw [if_neg (show ¬ (false = true) by decide)] at H1
            clear H
            have H := H1
            clear H1
            replace H := Option.bind_eq_some_iff.mp H
            obtain ⟨t143, A490, H⟩ := H
            try dsimp only at H
            have A49 := Aside0.mk A490
            clear A490
            by_cases c50 : t143 = true
            · rw [if_pos c50] at H
              cases H
            ·
             replace c50 := Bool.eq_false_iff.mpr c50
             subst c50
             have H1 := H
             rw [if_neg (show ¬ (false = true) by decide)] at H1
             clear H
             have H := H1
             clear H1
             obtain rfl := Option.some.inj H
             have hnb61 := NB140_139.out
             have hnc61 := NB139_140.out
             have hcz62_0 : wc.cell? ⟨gb140, 0, none⟩ = some (.string a1_0) := (blk_cell BK140.out 0).trans rfl
             have hcz62_1 : wc.cell? ⟨gb140, 1, none⟩ = some (.string a1_1) := (blk_cell BK140.out 1).trans rfl
             have hcz62_2 : wc.cell? ⟨gb140, 2, none⟩ = some (.string a1_2) := (blk_cell BK140.out 2).trans rfl
             have hcz62_3 : wc.cell? ⟨gb140, 3, none⟩ = some (.bool a1_3) := (blk_cell BK140.out 3).trans rfl
             have hfz62_0 := blk_frozen BK140.out 0
             have hfz62_1 := blk_frozen BK140.out 1
             have hfz62_2 := blk_frozen BK140.out 2
             have hfz62_3 := blk_frozen BK140.out 3
             go_wp2_with (first | ((with_reducible refine gate_callee (f := 33) rfl ?_); refine goesM_ (some 74) Try.func33 #[.string a1_0] ?_; (with_reducible refine (label_Head.calls a1_0 false _ A49.out).mono ?_); rintro e w63 ⟨rfl, hb⟩; refine ⟨_, rfl, ?_⟩; have n0_ := Aside0.mk (blk_below (g := gb139) (o := .cells #[.string a0_0, .slice A0_1 l0_1.length c0_1] 24 (0, 0)) (kz_ BK139.out) hb); have n1_ := Aside0.mk (blk_below (g := gb140) (o := .cells #[.string a1_0, .string a1_1, .string a1_2, .bool a1_3] 34 (0, 0)) (kz_ BK140.out) hb); have n2_ := Aside0.mk (below_step (bs2_ GE139.out GE140.out) hb); clear BK139; clear BK140; clear HB; have BK139 := n0_; have BK140 := n1_; have HB := n2_; clear n0_ n1_ n2_; (try clear hb); (try clear hb2); (try clear hk); (try clear hi)))
             go_ret
             exact ⟨xz_, bs2_ GE139.out GE140.out⟩
     ·
      rw [if_neg c25] at H
      have c25b0 : (t141.toList == a1_1.toList) = false := beq_eq_false_iff_ne.mpr c25
      have c25b1 : (t141.toList != a1_1.toList) = true := bne_iff_ne.mpr c25
      obtain rfl := Option.some.inj H
      have hnb64 := NB140_139.out
      have hnc64 := NB139_140.out
      have hcz65_0 : wc.cell? ⟨gb140, 0, none⟩ = some (.string a1_0) := (blk_cell BK140.out 0).trans rfl
      have hcz65_1 : wc.cell? ⟨gb140, 1, none⟩ = some (.string a1_1) := (blk_cell BK140.out 1).trans rfl
      have hcz65_2 : wc.cell? ⟨gb140, 2, none⟩ = some (.string a1_2) := (blk_cell BK140.out 2).trans rfl
      have hcz65_3 : wc.cell? ⟨gb140, 3, none⟩ = some (.bool a1_3) := (blk_cell BK140.out 3).trans rfl
      have hfz65_0 := blk_frozen BK140.out 0
      have hfz65_1 := blk_frozen BK140.out 1
      have hfz65_2 := blk_frozen BK140.out 2
      have hfz65_3 := blk_frozen BK140.out 3
      go_wp2
      go_ret
      exact ⟨xz_, bs2_ GE139.out GE140.out⟩
 ·
  replace c6 := Bool.eq_false_iff.mpr c6
  subst c6
  have H1 := H
  rw [if_neg (show ¬ (false = true) by decide)] at H1
  clear H
  have H := H1
  clear H1
  obtain rfl := Option.some.inj H
  go_enter Try.func26, Try.ntmps26
  go_wp2_with (first | ((with_reducible refine gate_dst (N := 3) rfl ?_); (try (refine gate_guard (by rfl) ?_; dsimp only)); refine box_event ?hg (N := 3) ?hd (cs := #[.string a0_0, .slice A0_1 l0_1.length c0_1]) (t := 24) ?hr ?_; (case hd => rfl); (case hg => rfl); (case hr => first | (go_simp; done) | (go_simp; rfl)); intro gb139 hg w66 hbox hb; have n0_ := Aside0.mk (below_step bz_ hb); have n1_ := Aside0.mk (hbox); have n2_ := Aside0.mk ((by rw [hg]; exact (below_size bz_) : w.heap.size ≤ gb139)); have n3_ := Aside0.mk ((by rw [hg]; exact (below_size bz_) : w.heap.size ≤ gb139)); clear HB; have HB := n0_; have BK139 := n1_; have GW139 := n2_; have GE139 := n3_; clear n0_ n1_ n2_ n3_; clear hb hbox hg) | ((with_reducible refine gate_dst (N := 4) rfl ?_); (try (refine gate_guard (by rfl) ?_; dsimp only)); refine box_event ?hg (N := 4) ?hd (cs := #[.string a1_0, .string a1_1, .string a1_2, .bool a1_3]) (t := 34) ?hr ?_; (case hd => rfl); (case hg => rfl); (case hr => first | (go_simp; done) | (go_simp; rfl)); intro gb140 hg w67 hbox hb; have n0_ := Aside0.mk (blk_below (g := gb139) (o := .cells #[.string a0_0, .slice A0_1 l0_1.length c0_1] 24 (0, 0)) (kz_ BK139.out) hb); have n1_ := Aside0.mk (below_step (bs1_ GE139.out) hb); have n2_ := Aside0.mk (hbox); have n3_ := Aside0.mk ((by rw [hg]; exact (below_size (bs1_ GE139.out)) : w.heap.size ≤ gb140)); have n4_ := Aside0.mk ((by rw [hg]; exact (below_size (bs1_ GE139.out)) : w.heap.size ≤ gb140)); have n5_ := Aside0.mk ((by rw [hg]; exact Nat.ne_of_lt (blk_lt (g := gb139) (o := .cells #[.string a0_0, .slice A0_1 l0_1.length c0_1] 24 (0, 0)) (kz_ BK139.out)) : gb139 ≠ gb140)); have n6_ := Aside0.mk ((by rw [hg]; exact Nat.ne_of_gt (blk_lt (g := gb139) (o := .cells #[.string a0_0, .slice A0_1 l0_1.length c0_1] 24 (0, 0)) (kz_ BK139.out)) : gb140 ≠ gb139)); clear BK139; clear HB; have BK139 := n0_; have HB := n1_; have BK140 := n2_; have GW140 := n3_; have GE140 := n4_; have NB139_140 := n5_; have NB140_139 := n6_; clear n0_ n1_ n2_ n3_ n4_ n5_ n6_; clear hb hbox hg; have hnb68 := NB139_140.out; have hnc68 := NB140_139.out; have hcz69_0 : w67.cell? ⟨gb139, 0, none⟩ = some (.string a0_0) := (blk_cell BK139.out 0).trans rfl; have hcz69_1 : w67.cell? ⟨gb139, 1, none⟩ = some (.slice A0_1 l0_1.length c0_1) := (blk_cell BK139.out 1).trans rfl; have hfz69_0 := blk_frozen BK139.out 0; have hfz69_1 := blk_frozen BK139.out 1; have hcz70_0 : w67.cell? ⟨gb140, 0, none⟩ = some (.string a1_0) := (blk_cell BK140.out 0).trans rfl; have hcz70_1 : w67.cell? ⟨gb140, 1, none⟩ = some (.string a1_1) := (blk_cell BK140.out 1).trans rfl; have hcz70_2 : w67.cell? ⟨gb140, 2, none⟩ = some (.string a1_2) := (blk_cell BK140.out 2).trans rfl; have hcz70_3 : w67.cell? ⟨gb140, 3, none⟩ = some (.bool a1_3) := (blk_cell BK140.out 3).trans rfl; have hfz70_0 := blk_frozen BK140.out 0; have hfz70_1 := blk_frozen BK140.out 1; have hfz70_2 := blk_frozen BK140.out 2; have hfz70_3 := blk_frozen BK140.out 3) | ((with_reducible refine gate_callee (f := 21) rfl ?_); refine goesM_ (some 11) Try.func21 #[.agg #[.string a0_0, .slice A0_1 l0_1.length c0_1], .string a1_0] ?_; (with_reducible refine (refs_Get.calls k a0_0 _ _ l0_1 a1_0 t141 _ ?side1 ?side2 A4.out).mono ?_); (case side1 => repeat (first | exact (Kd.C_below HR0_1.out HB.out) | (with_reducible refine Kd.C_alloc ?_ _) | (with_reducible refine Kd.C_drewN ?_ _) | (with_reducible refine Kd.C_drew ?_))); (case side2 => exact HC0_1.out); rintro e w71 ⟨rfl, hb⟩; refine ⟨_, rfl, ?_⟩; have n0_ := Aside0.mk (blk_below (g := gb139) (o := .cells #[.string a0_0, .slice A0_1 l0_1.length c0_1] 24 (0, 0)) (kz_ BK139.out) hb); have n1_ := Aside0.mk (blk_below (g := gb140) (o := .cells #[.string a1_0, .string a1_1, .string a1_2, .bool a1_3] 34 (0, 0)) (kz_ BK140.out) hb); have n2_ := Aside0.mk (below_step (bs2_ GE139.out GE140.out) hb); clear BK139; clear BK140; clear HB; have BK139 := n0_; have BK140 := n1_; have HB := n2_; clear n0_ n1_ n2_; (try clear hb); (try clear hb2); (try clear hk); (try clear hi); have hcz72_0 : w71.cell? ⟨gb140, 0, none⟩ = some (.string a1_0) := (blk_cell BK140.out 0).trans rfl; have hcz72_1 : w71.cell? ⟨gb140, 1, none⟩ = some (.string a1_1) := (blk_cell BK140.out 1).trans rfl; have hcz72_2 : w71.cell? ⟨gb140, 2, none⟩ = some (.string a1_2) := (blk_cell BK140.out 2).trans rfl; have hcz72_3 : w71.cell? ⟨gb140, 3, none⟩ = some (.bool a1_3) := (blk_cell BK140.out 3).trans rfl; have hfz72_0 := blk_frozen BK140.out 0; have hfz72_1 := blk_frozen BK140.out 1; have hfz72_2 := blk_frozen BK140.out 2; have hfz72_3 := blk_frozen BK140.out 3) | ((with_reducible refine gate_callee (f := 34) rfl ?_); refine goesM_ (some 15) Try.func34 #[.string a1_0] ?_; (with_reducible refine (label_Ref.calls a1_0 false _ A5.out).mono ?_); rintro e w73 ⟨rfl, hb⟩; refine ⟨_, rfl, ?_⟩; have n0_ := Aside0.mk (blk_below (g := gb139) (o := .cells #[.string a0_0, .slice A0_1 l0_1.length c0_1] 24 (0, 0)) (kz_ BK139.out) hb); have n1_ := Aside0.mk (blk_below (g := gb140) (o := .cells #[.string a1_0, .string a1_1, .string a1_2, .bool a1_3] 34 (0, 0)) (kz_ BK140.out) hb); have n2_ := Aside0.mk (below_step (bs2_ GE139.out GE140.out) hb); clear BK139; clear BK140; clear HB; have BK139 := n0_; have BK140 := n1_; have HB := n2_; clear n0_ n1_ n2_; (try clear hb); (try clear hb2); (try clear hk); (try clear hi)))
  go_ret
  exact ⟨xz_, bs2_ GE139.out GE140.out⟩



end Go.Proofs.Ytgepbdkbleapaaa.M
