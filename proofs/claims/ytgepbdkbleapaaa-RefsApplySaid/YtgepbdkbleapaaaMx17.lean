/- The program's functions as plain functions, and that each call comes to what these tell; written by a program of this session, some contracts by hand. Conditions: none. -/
import Derived.Test.YtgepbdkbleapaaaMx0
import Derived.Test.YtgepbdkbleapaaaMx3
import Derived.Test.YtgepbdkbleapaaaMx4
import Derived.Test.YtgepbdkbleapaaaMx6
import Derived.Test.YtgepbdkbleapaaaMx7
import Derived.Test.YtgepbdkbleapaaaMx9
namespace Go.Proofs.Ytgepbdkbleapaaa.M
open Go.RowKit Go.Proofs.YtgepbdkbleapaaaW.PrintWords Go.Proofs.YtgepbdkbleapaaaW.PrintLast Go.Proofs.YtgepbdkbleapaaaW.PrintMore
attribute [local go_sem] max2_int min2_int max_two min_two max_three min_three max_four min_four   -- for this text's walks alone
set_option linter.unusedVariables false
set_option linter.unusedSimpArgs false

/-! ### refs_ApplyW: function 8000 (given by hand) -/
set_option maxHeartbeats 4000000 in
set_option maxRecDepth 100000 in
/-- The law's closure: may a branch go so? -/
theorem refs_whyW.fwd (k : Nat) (gq : Nat) (A2 : Option Addr) (c2 : Nat) (F : List (S37)) (a b : ByteArray) (r : Bool) (w : World) (hq : w.heap[gq]? = some (.cells #[.slice A2 F.length c2] 36 (0, 0))) (hr : Kd.C k37 w A2 F.length F) (hc : F.length ≤ c2) (h : pollardref13_Ways_Forward.f k F a b = some r) :
 Calls Try.prog 9 #[.string a, .string b, .pointer (some ⟨gq, 0, none⟩)] w fun e w' => e = .returned (.bool r) ∧ Below w.heap.size w w' := by
 have H := Aside0.mk h
 have HR := Aside0.mk hr
 have HC := Aside0.mk hc
 have hz : w.cell? ⟨gq, 0, none⟩ = some (.slice A2 F.length c2) := (blk_cell hq 0).trans rfl
 clear h hr hc hq
 go_enter Try.func9, Try.ntmps9
 go_wp2_with (go_at_call 10; refine (pollardref13_Ways_Forward.calls k A2 c2 F a b r _ HR.out HC.out H.out).mono ?_; rintro e w5 ⟨rfl, ⟨nd, rfl⟩⟩)
 go_ret
 exact ⟨rfl, pw_below_drewN (Below.refl _ _) _⟩
mutual
def refs_whyW.j0 (F : List (S37)) : Nat → ByteArray → Bool → ByteArray → List (S50) → ByteArray → ByteArray → ByteArray → Bool → Option (Int)
 | 0, _, _, _, _, _, _, _, _ => none
 | k + 1, x7, x17, x140000, x140001, x141000, x141001, x141002, x141003 => if x17 = true then (some 1) else (if x7.toList = x141001.toList then (if x141002.toList = ([] : List UInt8) then (refs_whyW.j1 F k x7 (x141000.toList == x140000.toList) x141000 x141001 x141002 x141003) else (refs_whyW.j1 F k x7 false x141000 x141001 x141002 x141003)) else (some 130))
def refs_whyW.j1 (F : List (S37)) : Nat → ByteArray → Bool → ByteArray → ByteArray → ByteArray → Bool → Option (Int)
 | 0, _, _, _, _, _, _ => none
 | k + 1, x7, x42, x141000, x141001, x141002, x141003 => if x42 = true then (some 132) else (if x141002.toList = ([] : List UInt8) then (refs_whyW.j2 F k x7 true x141000 x141001 x141002 x141003) else (if x7.toList = ([] : List UInt8) then (refs_whyW.j2 F k x7 true x141000 x141001 x141002 x141003) else (if x7.toList = x141002.toList then (refs_whyW.j2 F k x7 true x141000 x141001 x141002 x141003) else (refs_whyW.j2 F k x7 x141003 x141000 x141001 x141002 x141003))))
def refs_whyW.j2 (F : List (S37)) : Nat → ByteArray → Bool → ByteArray → ByteArray → ByteArray → Bool → Option (Int)
 | 0, _, _, _, _, _, _ => none
 | k + 1, x7, x53, x141000, x141001, x141002, x141003 => if x53 = true then (some 0) else ((label_Head.f x141000).bind fun t143 => (if t143 = true then ((pollardref13_Ways_Forward.f k F x7 x141002).bind fun t144 => (if t144 = true then (some 0) else (some 131))) else (some 133)))
end
def refs_whyW.f (F : List (S37)) (k : Nat) (a0_0 : ByteArray) (l0_1 : List (S50)) (a1_0 : ByteArray) (a1_1 : ByteArray) (a1_2 : ByteArray) (a1_3 : Bool)  : Option (Int) := (refs_Get.f k a0_0 l0_1 a1_0).bind fun t141 => ((label_Ref.f a1_0).bind fun t142 => (if t142 = true then (if a1_2.toList = ([] : List UInt8) then (refs_whyW.j0 F k t141 (a1_1.toList == ([] : List UInt8)) a0_0 l0_1 a1_0 a1_1 a1_2 a1_3) else (if (a1_2.size : Int) = 32 then (refs_whyW.j0 F k t141 false a0_0 l0_1 a1_0 a1_1 a1_2 a1_3) else (refs_whyW.j0 F k t141 true a0_0 l0_1 a1_0 a1_1 a1_2 a1_3))) else (some 50)))
theorem refs_whyW.mono_l (F : List (S37)) : ∀ k, (∀ y0 y1 y2 y3 y4 y5 y6 y7, LeO (refs_whyW.j0 F k y0 y1 y2 y3 y4 y5 y6 y7) (refs_whyW.j0 F (k + 1) y0 y1 y2 y3 y4 y5 y6 y7)) ∧ (∀ y0 y1 y2 y3 y4 y5, LeO (refs_whyW.j1 F k y0 y1 y2 y3 y4 y5) (refs_whyW.j1 F (k + 1) y0 y1 y2 y3 y4 y5)) ∧ (∀ y0 y1 y2 y3 y4 y5, LeO (refs_whyW.j2 F k y0 y1 y2 y3 y4 y5) (refs_whyW.j2 F (k + 1) y0 y1 y2 y3 y4 y5))
 | 0 => ⟨fun _ _ _ _ _ _ _ _ r h => by simp [refs_whyW.j0] at h, fun _ _ _ _ _ _ r h => by simp [refs_whyW.j1] at h, fun _ _ _ _ _ _ r h => by simp [refs_whyW.j2] at h⟩
 | k + 1 => by
  obtain ⟨ih0, ih1, ih2⟩ := refs_whyW.mono_l F k
  refine ⟨?_, ?_, ?_⟩
  all_goals (intros; first | unfold refs_whyW.j0 | unfold refs_whyW.j1 | unfold refs_whyW.j2)
  all_goals repeat' with_reducible first | exact pollardref13_Ways_Forward.mono _ _ _ _ | exact ih0 _ _ _ _ _ _ _ _ | exact ih1 _ _ _ _ _ _ | exact ih2 _ _ _ _ _ _ | exact refs_Get.mono _ _ _ _ | exact LeO.refl _ | exact LeO.none _ | refine LeO.ite ?_ ?_ | refine LeO.bind ?_ (fun _ => ?_)
theorem refs_whyW.mono (F : List (S37)) : ∀ a0 a1 a2 a3 a4 a5 k, LeO (refs_whyW.f F k a0 a1 a2 a3 a4 a5) (refs_whyW.f F (k + 1) a0 a1 a2 a3 a4 a5) := by
 intro a0 a1 a2 a3 a4 a5 k
 obtain ⟨ih0, ih1, ih2⟩ := refs_whyW.mono_l F k
 unfold refs_whyW.f
 repeat' with_reducible first | exact pollardref13_Ways_Forward.mono _ _ _ _ | exact ih0 _ _ _ _ _ _ _ _ | exact ih1 _ _ _ _ _ _ | exact ih2 _ _ _ _ _ _ | exact refs_Get.mono _ _ _ _ | exact LeO.refl _ | exact LeO.none _ | refine LeO.ite ?_ ?_ | refine LeO.bind ?_ (fun _ => ?_)
set_option maxHeartbeats 8000000 in
set_option maxRecDepth 100000 in
theorem refs_whyW.calls (F : List (S37)) (gq : Nat) (A2 : Option Addr) (c2 : Nat) (k : Nat) (a0_0 : ByteArray) (A0_1 : Option Addr) (c0_1 : Nat) (l0_1 : List (S50)) (a1_0 : ByteArray) (a1_1 : ByteArray) (a1_2 : ByteArray) (a1_3 : Bool)  (r : Int) (w : World) (hr0_1 : Kd.C k50 w A0_1 l0_1.length l0_1) (hc0_1 : l0_1.length ≤ c0_1) (hq : w.heap[gq]? = some (.cells #[.slice A2 F.length c2] 36 (0, 0))) (hr2 : Kd.C k37 w A2 F.length F) (hc2 : F.length ≤ c2) (h : refs_whyW.f F k a0_0 l0_1 a1_0 a1_1 a1_2 a1_3 = some r) :
 Calls Try.prog 26 #[.agg #[.string a0_0, .slice A0_1 l0_1.length c0_1], .agg #[.string a1_0, .string a1_1, .string a1_2, .bool a1_3], .func (.func 9) #[] #[.pointer (some ⟨gq, 0, none⟩)]] w fun e w' => e = .returned (.int .i64 r) ∧ Below w.heap.size w w' := by
 have HQ := Aside0.mk hq
 have HR2 := Aside0.mk hr2
 have HC2 := Aside0.mk hc2
 clear hq hr2 hc2
 have hu24 := Try.underlying24
 have hu34 := Try.underlying34
 have HR0_1 := Aside0.mk hr0_1
 have HC0_1 := Aside0.mk hc0_1
 clear hr0_1 hc0_1
 have HB := Aside0.mk (Below.refl w.heap.size w)
 have H : ((refs_Get.f k a0_0 l0_1 a1_0).bind fun t141 => ((label_Ref.f a1_0).bind fun t142 => (if t142 = true then (if a1_2.toList = ([] : List UInt8) then (refs_whyW.j0 F k t141 (a1_1.toList == ([] : List UInt8)) a0_0 l0_1 a1_0 a1_1 a1_2 a1_3) else (if (a1_2.size : Int) = 32 then (refs_whyW.j0 F k t141 false a0_0 l0_1 a1_0 a1_1 a1_2 a1_3) else (refs_whyW.j0 F k t141 true a0_0 l0_1 a1_0 a1_1 a1_2 a1_3))) else (some 50)))) = some r := h
 clear h
 replace H := Option.bind_eq_some_iff.mp H
 obtain ⟨t141, A40, H⟩ := H
 try dsimp only at H
 have A4 := Aside0.mk A40
 clear A40
 replace H := Option.bind_eq_some_iff.mp H
 obtain ⟨t142, A50, H⟩ := H
 try dsimp only at H
 have A5 := Aside0.mk A50
 clear A50
 by_cases c6 : t142 = true
 ·
  subst c6
  have H1 := H
  rw [if_pos rfl] at H1
  clear H
  have H := H1
  clear H1
  have HC7 := Aside0.mk H
  clear H
  go_enter Try.func26, Try.ntmps26
  go_upto_region 4 with (first | ((with_reducible refine gate_dst (N := 3) rfl ?_); (try (refine gate_guard (by rfl) ?_; dsimp only)); refine box_event ?hg (N := 3) ?hd (cs := #[.string a0_0, .slice A0_1 l0_1.length c0_1]) (t := 24) ?hr ?_; (case hd => rfl); (case hg => rfl); (case hr => first | (go_simp; done) | (go_simp; rfl)); intro gb139 hg w8 hbox hb; have n0_ := Aside0.mk (below_step bz_ hb); have n1_ := Aside0.mk (hbox); have n2_ := Aside0.mk ((by rw [hg]; exact (below_size bz_) : w.heap.size ≤ gb139)); have n3_ := Aside0.mk ((by rw [hg]; exact (below_size bz_) : w.heap.size ≤ gb139)); clear HB; have HB := n0_; have BK139 := n1_; have GW139 := n2_; have GE139 := n3_; clear n0_ n1_ n2_ n3_; clear hb hbox hg) | ((with_reducible refine gate_dst (N := 4) rfl ?_); (try (refine gate_guard (by rfl) ?_; dsimp only)); refine box_event ?hg (N := 4) ?hd (cs := #[.string a1_0, .string a1_1, .string a1_2, .bool a1_3]) (t := 34) ?hr ?_; (case hd => rfl); (case hg => rfl); (case hr => first | (go_simp; done) | (go_simp; rfl)); intro gb140 hg w9 hbox hb; have n0_ := Aside0.mk (blk_below (g := gb139) (o := .cells #[.string a0_0, .slice A0_1 l0_1.length c0_1] 24 (0, 0)) (kz_ BK139.out) hb); have n1_ := Aside0.mk (below_step (bs1_ GE139.out) hb); have n2_ := Aside0.mk (hbox); have n3_ := Aside0.mk ((by rw [hg]; exact (below_size (bs1_ GE139.out)) : w.heap.size ≤ gb140)); have n4_ := Aside0.mk ((by rw [hg]; exact (below_size (bs1_ GE139.out)) : w.heap.size ≤ gb140)); have n5_ := Aside0.mk ((by rw [hg]; exact Nat.ne_of_lt (blk_lt (g := gb139) (o := .cells #[.string a0_0, .slice A0_1 l0_1.length c0_1] 24 (0, 0)) (kz_ BK139.out)) : gb139 ≠ gb140)); have n6_ := Aside0.mk ((by rw [hg]; exact Nat.ne_of_gt (blk_lt (g := gb139) (o := .cells #[.string a0_0, .slice A0_1 l0_1.length c0_1] 24 (0, 0)) (kz_ BK139.out)) : gb140 ≠ gb139)); clear BK139; clear HB; have BK139 := n0_; have HB := n1_; have BK140 := n2_; have GW140 := n3_; have GE140 := n4_; have NB139_140 := n5_; have NB140_139 := n6_; clear n0_ n1_ n2_ n3_ n4_ n5_ n6_; clear hb hbox hg; have hnb10 := NB139_140.out; have hnc10 := NB140_139.out; have hcz11_0 : w9.cell? ⟨gb139, 0, none⟩ = some (.string a0_0) := (blk_cell BK139.out 0).trans rfl; have hcz11_1 : w9.cell? ⟨gb139, 1, none⟩ = some (.slice A0_1 l0_1.length c0_1) := (blk_cell BK139.out 1).trans rfl; have hfz11_0 := blk_frozen BK139.out 0; have hfz11_1 := blk_frozen BK139.out 1; have hcz12_0 : w9.cell? ⟨gb140, 0, none⟩ = some (.string a1_0) := (blk_cell BK140.out 0).trans rfl; have hcz12_1 : w9.cell? ⟨gb140, 1, none⟩ = some (.string a1_1) := (blk_cell BK140.out 1).trans rfl; have hcz12_2 : w9.cell? ⟨gb140, 2, none⟩ = some (.string a1_2) := (blk_cell BK140.out 2).trans rfl; have hcz12_3 : w9.cell? ⟨gb140, 3, none⟩ = some (.bool a1_3) := (blk_cell BK140.out 3).trans rfl; have hfz12_0 := blk_frozen BK140.out 0; have hfz12_1 := blk_frozen BK140.out 1; have hfz12_2 := blk_frozen BK140.out 2; have hfz12_3 := blk_frozen BK140.out 3) | ((with_reducible refine gate_callee (f := 21) rfl ?_); refine goesM_ (some 11) Try.func21 #[.agg #[.string a0_0, .slice A0_1 l0_1.length c0_1], .string a1_0] ?_; (with_reducible refine (refs_Get.calls k a0_0 _ _ l0_1 a1_0 t141 _ ?side1 ?side2 A4.out).mono ?_); (case side1 => repeat (first | exact (Kd.C_below HR0_1.out HB.out) | (with_reducible refine Kd.C_alloc ?_ _) | (with_reducible refine Kd.C_drewN ?_ _) | (with_reducible refine Kd.C_drew ?_))); (case side2 => exact HC0_1.out); rintro e w13 ⟨rfl, hb⟩; refine ⟨_, rfl, ?_⟩; have n0_ := Aside0.mk (blk_below (g := gb139) (o := .cells #[.string a0_0, .slice A0_1 l0_1.length c0_1] 24 (0, 0)) (kz_ BK139.out) hb); have n1_ := Aside0.mk (blk_below (g := gb140) (o := .cells #[.string a1_0, .string a1_1, .string a1_2, .bool a1_3] 34 (0, 0)) (kz_ BK140.out) hb); have n2_ := Aside0.mk (below_step (bs2_ GE139.out GE140.out) hb); clear BK139; clear BK140; clear HB; have BK139 := n0_; have BK140 := n1_; have HB := n2_; clear n0_ n1_ n2_; (try clear hb); (try clear hb2); (try clear hk); (try clear hi); have hcz14_0 : w13.cell? ⟨gb140, 0, none⟩ = some (.string a1_0) := (blk_cell BK140.out 0).trans rfl; have hcz14_1 : w13.cell? ⟨gb140, 1, none⟩ = some (.string a1_1) := (blk_cell BK140.out 1).trans rfl; have hcz14_2 : w13.cell? ⟨gb140, 2, none⟩ = some (.string a1_2) := (blk_cell BK140.out 2).trans rfl; have hcz14_3 : w13.cell? ⟨gb140, 3, none⟩ = some (.bool a1_3) := (blk_cell BK140.out 3).trans rfl; have hfz14_0 := blk_frozen BK140.out 0; have hfz14_1 := blk_frozen BK140.out 1; have hfz14_2 := blk_frozen BK140.out 2; have hfz14_3 := blk_frozen BK140.out 3) | ((with_reducible refine gate_callee (f := 34) rfl ?_); refine goesM_ (some 15) Try.func34 #[.string a1_0] ?_; (with_reducible refine (label_Ref.calls a1_0 true _ A5.out).mono ?_); rintro e w15 ⟨rfl, hb⟩; refine ⟨_, rfl, ?_⟩; have n0_ := Aside0.mk (blk_below (g := gb139) (o := .cells #[.string a0_0, .slice A0_1 l0_1.length c0_1] 24 (0, 0)) (kz_ BK139.out) hb); have n1_ := Aside0.mk (blk_below (g := gb140) (o := .cells #[.string a1_0, .string a1_1, .string a1_2, .bool a1_3] 34 (0, 0)) (kz_ BK140.out) hb); have n2_ := Aside0.mk (below_step (bs2_ GE139.out GE140.out) hb); clear BK139; clear BK140; clear HB; have BK139 := n0_; have BK140 := n1_; have HB := n2_; clear n0_ n1_ n2_; (try clear hb); (try clear hb2); (try clear hk); (try clear hi)))
  (try simp only [Act.put, List.setIfInBounds_toArray, List.set_cons_zero, List.set_cons_succ])
  go_cut [17] (fun v17 wc => ∃ (kq : Nat) (x17_6 : Bool), v17 = .bool x17_6 ∧ Aside0 (refs_whyW.j0 F kq t141 x17_6 a0_0 l0_1 a1_0 a1_1 a1_2 a1_3 = some r) ∧ Aside0 (kq ≤ k) ∧ Aside0 (wc.heap[gb139]? = some (.cells #[.string a0_0, (.slice A0_1 l0_1.length c0_1)] 24 (0, 0))) ∧ Aside0 (wc.heap[gb140]? = some (.cells #[.string a1_0, .string a1_1, .string a1_2, .bool a1_3] 34 (0, 0))) ∧ Aside0 (Below w.heap.size w wc))
  case first =>
   have H := HC7.out
   clear HC7
   by_cases c16 : a1_2.toList = ([] : List UInt8)
   ·
    rw [if_pos c16] at H
    have c16b0 : (a1_2.toList == ([] : List UInt8)) = true := beq_iff_eq.mpr c16
    have c16b1 : (a1_2.toList != ([] : List UInt8)) = false := bne_eq_false_iff_eq.mpr c16
    clear c16
    (first | rw [c16b0] | (simp only [i64_w, i32_w]; rw [c16b0]) | skip)
    have H' := Aside0.mk H
    clear H
    have hnb17 := NB140_139.out
    have hnc17 := NB139_140.out
    have hcz18_0 : w15.cell? ⟨gb140, 0, none⟩ = some (.string a1_0) := (blk_cell BK140.out 0).trans rfl
    have hcz18_1 : w15.cell? ⟨gb140, 1, none⟩ = some (.string a1_1) := (blk_cell BK140.out 1).trans rfl
    have hcz18_2 : w15.cell? ⟨gb140, 2, none⟩ = some (.string a1_2) := (blk_cell BK140.out 2).trans rfl
    have hcz18_3 : w15.cell? ⟨gb140, 3, none⟩ = some (.bool a1_3) := (blk_cell BK140.out 3).trans rfl
    have hfz18_0 := blk_frozen BK140.out 0
    have hfz18_1 := blk_frozen BK140.out 1
    have hfz18_2 := blk_frozen BK140.out 2
    have hfz18_3 := blk_frozen BK140.out 3
    go_wp2
    go_meet
    case rel => exact ⟨_, ((a1_1.toList == ([] : List UInt8))), ez_, H', ⟨by first | omega | exact Nat.le_refl _⟩, ⟨kz_ BK139.out⟩, ⟨kz_ BK140.out⟩, ⟨bs2_ GE139.out GE140.out⟩⟩
   ·
    rw [if_neg c16] at H
    have c16b0 : (a1_2.toList == ([] : List UInt8)) = false := beq_eq_false_iff_ne.mpr c16
    have c16b1 : (a1_2.toList != ([] : List UInt8)) = true := bne_iff_ne.mpr c16
    (first | rw [c16b0] | (simp only [i64_w, i32_w]; rw [c16b0]) | skip)
    by_cases c19 : (a1_2.size : Int) = 32
    ·
     rw [if_pos c19] at H
     have c19b0 : ((a1_2.size : Int) == 32) = true := beq_iff_eq.mpr c19
     have c19b1 : ((a1_2.size : Int) != 32) = false := bne_eq_false_iff_eq.mpr c19
     clear c19
     have H' := Aside0.mk H
     clear H
     have hnb20 := NB140_139.out
     have hnc20 := NB139_140.out
     have hcz21_0 : w15.cell? ⟨gb140, 0, none⟩ = some (.string a1_0) := (blk_cell BK140.out 0).trans rfl
     have hcz21_1 : w15.cell? ⟨gb140, 1, none⟩ = some (.string a1_1) := (blk_cell BK140.out 1).trans rfl
     have hcz21_2 : w15.cell? ⟨gb140, 2, none⟩ = some (.string a1_2) := (blk_cell BK140.out 2).trans rfl
     have hcz21_3 : w15.cell? ⟨gb140, 3, none⟩ = some (.bool a1_3) := (blk_cell BK140.out 3).trans rfl
     have hfz21_0 := blk_frozen BK140.out 0
     have hfz21_1 := blk_frozen BK140.out 1
     have hfz21_2 := blk_frozen BK140.out 2
     have hfz21_3 := blk_frozen BK140.out 3
     go_wp2
     go_meet
     case rel => exact ⟨_, (false), ez_, H', ⟨by first | omega | exact Nat.le_refl _⟩, ⟨kz_ BK139.out⟩, ⟨kz_ BK140.out⟩, ⟨bs2_ GE139.out GE140.out⟩⟩
    ·
     rw [if_neg c19] at H
     have c19b0 : ((a1_2.size : Int) == 32) = false := beq_eq_false_iff_ne.mpr c19
     have c19b1 : ((a1_2.size : Int) != 32) = true := bne_iff_ne.mpr c19
     have H' := Aside0.mk H
     clear H
     have hnb22 := NB140_139.out
     have hnc22 := NB139_140.out
     have hcz23_0 : w15.cell? ⟨gb140, 0, none⟩ = some (.string a1_0) := (blk_cell BK140.out 0).trans rfl
     have hcz23_1 : w15.cell? ⟨gb140, 1, none⟩ = some (.string a1_1) := (blk_cell BK140.out 1).trans rfl
     have hcz23_2 : w15.cell? ⟨gb140, 2, none⟩ = some (.string a1_2) := (blk_cell BK140.out 2).trans rfl
     have hcz23_3 : w15.cell? ⟨gb140, 3, none⟩ = some (.bool a1_3) := (blk_cell BK140.out 3).trans rfl
     have hfz23_0 := blk_frozen BK140.out 0
     have hfz23_1 := blk_frozen BK140.out 1
     have hfz23_2 := blk_frozen BK140.out 2
     have hfz23_3 := blk_frozen BK140.out 3
     go_wp2
     go_meet
     case rel => exact ⟨_, (true), ez_, H', ⟨by first | omega | exact Nat.le_refl _⟩, ⟨kz_ BK139.out⟩, ⟨kz_ BK140.out⟩, ⟨bs2_ GE139.out GE140.out⟩⟩
  case rest =>
   clear HC7
   try clear c1
   try clear c2
   try clear p2
   try clear c3
   try clear c6
   try clear c10
   try clear c16
   try clear c16b0
   try clear c16b1
   try clear c17
   try clear c19
   try clear c19b0
   try clear c19b1
   try clear c20
   try clear c21
   try clear c22
   try clear hcz11_0
   try clear hcz11_1
   try clear hcz12_0
   try clear hcz12_1
   try clear hcz12_2
   try clear hcz12_3
   try clear hcz14_0
   try clear hcz14_1
   try clear hcz14_2
   try clear hcz14_3
   try clear hcz18_0
   try clear hcz18_1
   try clear hcz18_2
   try clear hcz18_3
   try clear hcz21_0
   try clear hcz21_1
   try clear hcz21_2
   try clear hcz21_3
   try clear hcz23_0
   try clear hcz23_1
   try clear hcz23_2
   try clear hcz23_3
   try clear hfz11_0
   try clear hfz11_1
   try clear hfz12_0
   try clear hfz12_1
   try clear hfz12_2
   try clear hfz12_3
   try clear hfz14_0
   try clear hfz14_1
   try clear hfz14_2
   try clear hfz14_3
   try clear hfz18_0
   try clear hfz18_1
   try clear hfz18_2
   try clear hfz18_3
   try clear hfz21_0
   try clear hfz21_1
   try clear hfz21_2
   try clear hfz21_3
   try clear hfz23_0
   try clear hfz23_1
   try clear hfz23_2
   try clear hfz23_3
   obtain ⟨kq, x17_6, rfl, HA, HJ6, BK139, BK140, HB⟩ := hcut
   cases kq with
   | zero => exact absurd HA.out (by simp [refs_whyW.j0])
   | succ kj6 =>
    have H := HA.out
    clear HA
    simp only [refs_whyW.j0] at H
    by_cases c24 : x17_6 = true
    · subst c24
      have H1 := H
      rw [if_pos rfl] at H1
      clear H
      have H := H1
      clear H1
      obtain rfl := Option.some.inj H
      go_wp2
      go_ret
      exact ⟨xz_, bs2_ GE139.out GE140.out⟩
    ·
     replace c24 := Bool.eq_false_iff.mpr c24
     subst c24
     have H1 := H
     rw [if_neg (show ¬ (false = true) by decide)] at H1
     clear H
     have H := H1
     clear H1
     by_cases c25 : t141.toList = a1_1.toList
     ·
      rw [if_pos c25] at H
      have c25b0 : (t141.toList == a1_1.toList) = true := beq_iff_eq.mpr c25
      have c25b1 : (t141.toList != a1_1.toList) = false := bne_eq_false_iff_eq.mpr c25
      clear c25
      have HC26 := Aside0.mk H
      clear H
      have hnb27 := NB140_139.out
      have hnc27 := NB139_140.out
      have hcz28_0 : wc.cell? ⟨gb140, 0, none⟩ = some (.string a1_0) := (blk_cell BK140.out 0).trans rfl
      have hcz28_1 : wc.cell? ⟨gb140, 1, none⟩ = some (.string a1_1) := (blk_cell BK140.out 1).trans rfl
      have hcz28_2 : wc.cell? ⟨gb140, 2, none⟩ = some (.string a1_2) := (blk_cell BK140.out 2).trans rfl
      have hcz28_3 : wc.cell? ⟨gb140, 3, none⟩ = some (.bool a1_3) := (blk_cell BK140.out 3).trans rfl
      have hfz28_0 := blk_frozen BK140.out 0
      have hfz28_1 := blk_frozen BK140.out 1
      have hfz28_2 := blk_frozen BK140.out 2
      have hfz28_3 := blk_frozen BK140.out 3
      go_upto_region 8 with (fail)
      go_cut [42] (fun v42 wc => ∃ (kq : Nat) (x42_25 : Bool), v42 = .bool x42_25 ∧ Aside0 (refs_whyW.j1 F kq t141 x42_25 a1_0 a1_1 a1_2 a1_3 = some r) ∧ Aside0 (kq ≤ kj6) ∧ Aside0 (wc.heap[gb139]? = some (.cells #[.string a0_0, (.slice A0_1 l0_1.length c0_1)] 24 (0, 0))) ∧ Aside0 (wc.heap[gb140]? = some (.cells #[.string a1_0, .string a1_1, .string a1_2, .bool a1_3] 34 (0, 0))) ∧ Aside0 (Below w.heap.size w wc))
      case first =>
       have H := HC26.out
       clear HC26
       by_cases c29 : a1_2.toList = ([] : List UInt8)
       ·
        rw [if_pos c29] at H
        have c29b0 : (a1_2.toList == ([] : List UInt8)) = true := beq_iff_eq.mpr c29
        have c29b1 : (a1_2.toList != ([] : List UInt8)) = false := bne_eq_false_iff_eq.mpr c29
        clear c29
        (first | rw [c29b0] | (simp only [i64_w, i32_w]; rw [c29b0]) | skip)
        have H' := Aside0.mk H
        clear H
        have hnb30 := NB140_139.out
        have hnc30 := NB139_140.out
        have hcz31_0 : wc.cell? ⟨gb140, 0, none⟩ = some (.string a1_0) := (blk_cell BK140.out 0).trans rfl
        have hcz31_1 : wc.cell? ⟨gb140, 1, none⟩ = some (.string a1_1) := (blk_cell BK140.out 1).trans rfl
        have hcz31_2 : wc.cell? ⟨gb140, 2, none⟩ = some (.string a1_2) := (blk_cell BK140.out 2).trans rfl
        have hcz31_3 : wc.cell? ⟨gb140, 3, none⟩ = some (.bool a1_3) := (blk_cell BK140.out 3).trans rfl
        have hfz31_0 := blk_frozen BK140.out 0
        have hfz31_1 := blk_frozen BK140.out 1
        have hfz31_2 := blk_frozen BK140.out 2
        have hfz31_3 := blk_frozen BK140.out 3
        have hcz32_0 : wc.cell? ⟨gb139, 0, none⟩ = some (.string a0_0) := (blk_cell BK139.out 0).trans rfl
        have hcz32_1 : wc.cell? ⟨gb139, 1, none⟩ = some (.slice A0_1 l0_1.length c0_1) := (blk_cell BK139.out 1).trans rfl
        have hfz32_0 := blk_frozen BK139.out 0
        have hfz32_1 := blk_frozen BK139.out 1
        go_wp2
        go_meet
        case rel => exact ⟨_, ((a1_0.toList == a0_0.toList)), ez_, H', ⟨by have := HJ6.out; first | omega | exact Nat.le_refl _⟩, ⟨kz_ BK139.out⟩, ⟨kz_ BK140.out⟩, ⟨bs2_ GE139.out GE140.out⟩⟩
       ·
        rw [if_neg c29] at H
        have c29b0 : (a1_2.toList == ([] : List UInt8)) = false := beq_eq_false_iff_ne.mpr c29
        have c29b1 : (a1_2.toList != ([] : List UInt8)) = true := bne_iff_ne.mpr c29
        (first | rw [c29b0] | (simp only [i64_w, i32_w]; rw [c29b0]) | skip)
        have H' := Aside0.mk H
        clear H
        have hnb33 := NB140_139.out
        have hnc33 := NB139_140.out
        have hcz34_0 : wc.cell? ⟨gb140, 0, none⟩ = some (.string a1_0) := (blk_cell BK140.out 0).trans rfl
        have hcz34_1 : wc.cell? ⟨gb140, 1, none⟩ = some (.string a1_1) := (blk_cell BK140.out 1).trans rfl
        have hcz34_2 : wc.cell? ⟨gb140, 2, none⟩ = some (.string a1_2) := (blk_cell BK140.out 2).trans rfl
        have hcz34_3 : wc.cell? ⟨gb140, 3, none⟩ = some (.bool a1_3) := (blk_cell BK140.out 3).trans rfl
        have hfz34_0 := blk_frozen BK140.out 0
        have hfz34_1 := blk_frozen BK140.out 1
        have hfz34_2 := blk_frozen BK140.out 2
        have hfz34_3 := blk_frozen BK140.out 3
        go_wp2
        go_meet
        case rel => exact ⟨_, (false), ez_, H', ⟨by have := HJ6.out; first | omega | exact Nat.le_refl _⟩, ⟨kz_ BK139.out⟩, ⟨kz_ BK140.out⟩, ⟨bs2_ GE139.out GE140.out⟩⟩
      case rest =>
       clear HC26
       try clear c1
       try clear c2
       try clear p2
       try clear c3
       try clear c6
       try clear c10
       try clear c16
       try clear c16b0
       try clear c16b1
       try clear c17
       try clear c19
       try clear c19b0
       try clear c19b1
       try clear c20
       try clear c21
       try clear c22
       try clear c24
       try clear c25
       try clear c25b0
       try clear c25b1
       try clear c26
       try clear c27
       try clear c29
       try clear c29b0
       try clear c29b1
       try clear c30
       try clear c33
       try clear c34
       try clear hcz11_0
       try clear hcz11_1
       try clear hcz12_0
       try clear hcz12_1
       try clear hcz12_2
       try clear hcz12_3
       try clear hcz14_0
       try clear hcz14_1
       try clear hcz14_2
       try clear hcz14_3
       try clear hcz18_0
       try clear hcz18_1
       try clear hcz18_2
       try clear hcz18_3
       try clear hcz21_0
       try clear hcz21_1
       try clear hcz21_2
       try clear hcz21_3
       try clear hcz23_0
       try clear hcz23_1
       try clear hcz23_2
       try clear hcz23_3
       try clear hcz28_0
       try clear hcz28_1
       try clear hcz28_2
       try clear hcz28_3
       try clear hcz31_0
       try clear hcz31_1
       try clear hcz31_2
       try clear hcz31_3
       try clear hcz32_0
       try clear hcz32_1
       try clear hcz34_0
       try clear hcz34_1
       try clear hcz34_2
       try clear hcz34_3
       try clear hfz11_0
       try clear hfz11_1
       try clear hfz12_0
       try clear hfz12_1
       try clear hfz12_2
       try clear hfz12_3
       try clear hfz14_0
       try clear hfz14_1
       try clear hfz14_2
       try clear hfz14_3
       try clear hfz18_0
       try clear hfz18_1
       try clear hfz18_2
       try clear hfz18_3
       try clear hfz21_0
       try clear hfz21_1
       try clear hfz21_2
       try clear hfz21_3
       try clear hfz23_0
       try clear hfz23_1
       try clear hfz23_2
       try clear hfz23_3
       try clear hfz28_0
       try clear hfz28_1
       try clear hfz28_2
       try clear hfz28_3
       try clear hfz31_0
       try clear hfz31_1
       try clear hfz31_2
       try clear hfz31_3
       try clear hfz32_0
       try clear hfz32_1
       try clear hfz34_0
       try clear hfz34_1
       try clear hfz34_2
       try clear hfz34_3
       try clear p2
       obtain ⟨kq, x42_25, rfl, HA, HJ25, BK139, BK140, HB⟩ := hcut
       cases kq with
       | zero => exact absurd HA.out (by simp [refs_whyW.j1])
       | succ kj25 =>
        have H := HA.out
        clear HA
        simp only [refs_whyW.j1] at H
        by_cases c35 : x42_25 = true
        · subst c35
          have H1 := H
          rw [if_pos rfl] at H1
          clear H
          have H := H1
          clear H1
          obtain rfl := Option.some.inj H
          go_wp2
          go_ret
          exact ⟨xz_, bs2_ GE139.out GE140.out⟩
        ·
         replace c35 := Bool.eq_false_iff.mpr c35
         subst c35
         have H1 := H
         rw [if_neg (show ¬ (false = true) by decide)] at H1
         clear H
         have H := H1
         clear H1
         have HC36 := Aside0.mk H
         clear H
         go_upto_region 10 with (fail)
         go_cut [53] (fun v53 wc => ∃ (kq : Nat) (x53_35 : Bool), v53 = .bool x53_35 ∧ Aside0 (refs_whyW.j2 F kq t141 x53_35 a1_0 a1_1 a1_2 a1_3 = some r) ∧ Aside0 (kq ≤ kj25) ∧ Aside0 (wc.heap[gb139]? = some (.cells #[.string a0_0, (.slice A0_1 l0_1.length c0_1)] 24 (0, 0))) ∧ Aside0 (wc.heap[gb140]? = some (.cells #[.string a1_0, .string a1_1, .string a1_2, .bool a1_3] 34 (0, 0))) ∧ Aside0 (Below w.heap.size w wc))
         case first =>
          have H := HC36.out
          clear HC36
          by_cases c37 : a1_2.toList = ([] : List UInt8)
          ·
           rw [if_pos c37] at H
           have c37b0 : (a1_2.toList == ([] : List UInt8)) = true := beq_iff_eq.mpr c37
           have c37b1 : (a1_2.toList != ([] : List UInt8)) = false := bne_eq_false_iff_eq.mpr c37
           clear c37
           (first | rw [c37b0] | (simp only [i64_w, i32_w]; rw [c37b0]) | skip)
           have H' := Aside0.mk H
           clear H
           have hnb38 := NB140_139.out
           have hnc38 := NB139_140.out
           have hcz39_0 : wc.cell? ⟨gb140, 0, none⟩ = some (.string a1_0) := (blk_cell BK140.out 0).trans rfl
           have hcz39_1 : wc.cell? ⟨gb140, 1, none⟩ = some (.string a1_1) := (blk_cell BK140.out 1).trans rfl
           have hcz39_2 : wc.cell? ⟨gb140, 2, none⟩ = some (.string a1_2) := (blk_cell BK140.out 2).trans rfl
           have hcz39_3 : wc.cell? ⟨gb140, 3, none⟩ = some (.bool a1_3) := (blk_cell BK140.out 3).trans rfl
           have hfz39_0 := blk_frozen BK140.out 0
           have hfz39_1 := blk_frozen BK140.out 1
           have hfz39_2 := blk_frozen BK140.out 2
           have hfz39_3 := blk_frozen BK140.out 3
           go_wp2
           go_meet
           case rel => exact ⟨_, (true), ez_, H', ⟨by have := HJ6.out; have := HJ25.out; first | omega | exact Nat.le_refl _⟩, ⟨kz_ BK139.out⟩, ⟨kz_ BK140.out⟩, ⟨bs2_ GE139.out GE140.out⟩⟩
          ·
           rw [if_neg c37] at H
           have c37b0 : (a1_2.toList == ([] : List UInt8)) = false := beq_eq_false_iff_ne.mpr c37
           have c37b1 : (a1_2.toList != ([] : List UInt8)) = true := bne_iff_ne.mpr c37
           (first | rw [c37b0] | (simp only [i64_w, i32_w]; rw [c37b0]) | skip)
           by_cases c40 : t141.toList = ([] : List UInt8)
           ·
            rw [if_pos c40] at H
            have c40b0 : (t141.toList == ([] : List UInt8)) = true := beq_iff_eq.mpr c40
            have c40b1 : (t141.toList != ([] : List UInt8)) = false := bne_eq_false_iff_eq.mpr c40
            clear c40
            have H' := Aside0.mk H
            clear H
            have hnb41 := NB140_139.out
            have hnc41 := NB139_140.out
            have hcz42_0 : wc.cell? ⟨gb140, 0, none⟩ = some (.string a1_0) := (blk_cell BK140.out 0).trans rfl
            have hcz42_1 : wc.cell? ⟨gb140, 1, none⟩ = some (.string a1_1) := (blk_cell BK140.out 1).trans rfl
            have hcz42_2 : wc.cell? ⟨gb140, 2, none⟩ = some (.string a1_2) := (blk_cell BK140.out 2).trans rfl
            have hcz42_3 : wc.cell? ⟨gb140, 3, none⟩ = some (.bool a1_3) := (blk_cell BK140.out 3).trans rfl
            have hfz42_0 := blk_frozen BK140.out 0
            have hfz42_1 := blk_frozen BK140.out 1
            have hfz42_2 := blk_frozen BK140.out 2
            have hfz42_3 := blk_frozen BK140.out 3
            go_wp2
            go_meet
            case rel => exact ⟨_, (true), ez_, H', ⟨by have := HJ6.out; have := HJ25.out; first | omega | exact Nat.le_refl _⟩, ⟨kz_ BK139.out⟩, ⟨kz_ BK140.out⟩, ⟨bs2_ GE139.out GE140.out⟩⟩
           ·
            rw [if_neg c40] at H
            have c40b0 : (t141.toList == ([] : List UInt8)) = false := beq_eq_false_iff_ne.mpr c40
            have c40b1 : (t141.toList != ([] : List UInt8)) = true := bne_iff_ne.mpr c40
            by_cases c43 : t141.toList = a1_2.toList
            ·
             rw [if_pos c43] at H
             have c43b0 : (t141.toList == a1_2.toList) = true := beq_iff_eq.mpr c43
             have c43b1 : (t141.toList != a1_2.toList) = false := bne_eq_false_iff_eq.mpr c43
             clear c43
             have H' := Aside0.mk H
             clear H
             have hnb44 := NB140_139.out
             have hnc44 := NB139_140.out
             have hcz45_0 : wc.cell? ⟨gb140, 0, none⟩ = some (.string a1_0) := (blk_cell BK140.out 0).trans rfl
             have hcz45_1 : wc.cell? ⟨gb140, 1, none⟩ = some (.string a1_1) := (blk_cell BK140.out 1).trans rfl
             have hcz45_2 : wc.cell? ⟨gb140, 2, none⟩ = some (.string a1_2) := (blk_cell BK140.out 2).trans rfl
             have hcz45_3 : wc.cell? ⟨gb140, 3, none⟩ = some (.bool a1_3) := (blk_cell BK140.out 3).trans rfl
             have hfz45_0 := blk_frozen BK140.out 0
             have hfz45_1 := blk_frozen BK140.out 1
             have hfz45_2 := blk_frozen BK140.out 2
             have hfz45_3 := blk_frozen BK140.out 3
             go_wp2
             go_meet
             case rel => exact ⟨_, (true), ez_, H', ⟨by have := HJ6.out; have := HJ25.out; first | omega | exact Nat.le_refl _⟩, ⟨kz_ BK139.out⟩, ⟨kz_ BK140.out⟩, ⟨bs2_ GE139.out GE140.out⟩⟩
            ·
             rw [if_neg c43] at H
             have c43b0 : (t141.toList == a1_2.toList) = false := beq_eq_false_iff_ne.mpr c43
             have c43b1 : (t141.toList != a1_2.toList) = true := bne_iff_ne.mpr c43
             have H' := Aside0.mk H
             clear H
             have hnb46 := NB140_139.out
             have hnc46 := NB139_140.out
             have hcz47_0 : wc.cell? ⟨gb140, 0, none⟩ = some (.string a1_0) := (blk_cell BK140.out 0).trans rfl
             have hcz47_1 : wc.cell? ⟨gb140, 1, none⟩ = some (.string a1_1) := (blk_cell BK140.out 1).trans rfl
             have hcz47_2 : wc.cell? ⟨gb140, 2, none⟩ = some (.string a1_2) := (blk_cell BK140.out 2).trans rfl
             have hcz47_3 : wc.cell? ⟨gb140, 3, none⟩ = some (.bool a1_3) := (blk_cell BK140.out 3).trans rfl
             have hfz47_0 := blk_frozen BK140.out 0
             have hfz47_1 := blk_frozen BK140.out 1
             have hfz47_2 := blk_frozen BK140.out 2
             have hfz47_3 := blk_frozen BK140.out 3
             go_wp2
             go_meet
             case rel => exact ⟨_, (a1_3), ez_, H', ⟨by have := HJ6.out; have := HJ25.out; first | omega | exact Nat.le_refl _⟩, ⟨kz_ BK139.out⟩, ⟨kz_ BK140.out⟩, ⟨bs2_ GE139.out GE140.out⟩⟩
         case rest =>
          clear HC36
          try clear c1
          try clear c2
          try clear p2
          try clear c3
          try clear c4
          try clear c6
          try clear c10
          try clear c16
          try clear c16b0
          try clear c16b1
          try clear c17
          try clear c19
          try clear c19b0
          try clear c19b1
          try clear c20
          try clear c21
          try clear c22
          try clear c24
          try clear c25
          try clear c25b0
          try clear c25b1
          try clear c26
          try clear c27
          try clear c29
          try clear c29b0
          try clear c29b1
          try clear c30
          try clear c33
          try clear c34
          try clear c35
          try clear c37
          try clear c37b0
          try clear c37b1
          try clear c38
          try clear c40
          try clear c40b0
          try clear c40b1
          try clear c41
          try clear c43
          try clear c43b0
          try clear c43b1
          try clear c44
          try clear c46
          try clear hcz11_0
          try clear hcz11_1
          try clear hcz12_0
          try clear hcz12_1
          try clear hcz12_2
          try clear hcz12_3
          try clear hcz14_0
          try clear hcz14_1
          try clear hcz14_2
          try clear hcz14_3
          try clear hcz18_0
          try clear hcz18_1
          try clear hcz18_2
          try clear hcz18_3
          try clear hcz21_0
          try clear hcz21_1
          try clear hcz21_2
          try clear hcz21_3
          try clear hcz23_0
          try clear hcz23_1
          try clear hcz23_2
          try clear hcz23_3
          try clear hcz28_0
          try clear hcz28_1
          try clear hcz28_2
          try clear hcz28_3
          try clear hcz31_0
          try clear hcz31_1
          try clear hcz31_2
          try clear hcz31_3
          try clear hcz32_0
          try clear hcz32_1
          try clear hcz34_0
          try clear hcz34_1
          try clear hcz34_2
          try clear hcz34_3
          try clear hcz39_0
          try clear hcz39_1
          try clear hcz39_2
          try clear hcz39_3
          try clear hcz42_0
          try clear hcz42_1
          try clear hcz42_2
          try clear hcz42_3
          try clear hcz45_0
          try clear hcz45_1
          try clear hcz45_2
          try clear hcz45_3
          try clear hcz47_0
          try clear hcz47_1
          try clear hcz47_2
          try clear hcz47_3
          try clear hfz11_0
          try clear hfz11_1
          try clear hfz12_0
          try clear hfz12_1
          try clear hfz12_2
          try clear hfz12_3
          try clear hfz14_0
          try clear hfz14_1
          try clear hfz14_2
          try clear hfz14_3
          try clear hfz18_0
          try clear hfz18_1
          try clear hfz18_2
          try clear hfz18_3
          try clear hfz21_0
          try clear hfz21_1
          try clear hfz21_2
          try clear hfz21_3
          try clear hfz23_0
          try clear hfz23_1
          try clear hfz23_2
          try clear hfz23_3
          try clear hfz28_0
          try clear hfz28_1
          try clear hfz28_2
          try clear hfz28_3
          try clear hfz31_0
          try clear hfz31_1
          try clear hfz31_2
          try clear hfz31_3
          try clear hfz32_0
          try clear hfz32_1
          try clear hfz34_0
          try clear hfz34_1
          try clear hfz34_2
          try clear hfz34_3
          try clear hfz39_0
          try clear hfz39_1
          try clear hfz39_2
          try clear hfz39_3
          try clear hfz42_0
          try clear hfz42_1
          try clear hfz42_2
          try clear hfz42_3
          try clear hfz45_0
          try clear hfz45_1
          try clear hfz45_2
          try clear hfz45_3
          try clear hfz47_0
          try clear hfz47_1
          try clear hfz47_2
          try clear hfz47_3
          try clear p2
          obtain ⟨kq, x53_35, rfl, HA, HJ35, BK139, BK140, HB⟩ := hcut
          cases kq with
          | zero => exact absurd HA.out (by simp [refs_whyW.j2])
          | succ kj35 =>
           have H := HA.out
           clear HA
           simp only [refs_whyW.j2] at H
           by_cases c48 : x53_35 = true
           · subst c48
             have H1 := H
             rw [if_pos rfl] at H1
             clear H
             have H := H1
             clear H1
             obtain rfl := Option.some.inj H
             go_wp2
             go_ret
             exact ⟨xz_, bs2_ GE139.out GE140.out⟩
           ·
            replace c48 := Bool.eq_false_iff.mpr c48
            subst c48
            have H1 := H
            rw [if_neg (show ¬ (false = true) by decide)] at H1
            clear H
            have H := H1
            clear H1
            replace H := Option.bind_eq_some_iff.mp H
            obtain ⟨t143, A490, H⟩ := H
            try dsimp only at H
            have A49 := Aside0.mk A490
            clear A490
            by_cases c50 : t143 = true
            ·
             subst c50
             have H1 := H
             rw [if_pos rfl] at H1
             clear H
             have H := H1
             clear H1
             replace H := Option.bind_eq_some_iff.mp H
             obtain ⟨t144, A510, H⟩ := H
             try dsimp only at H
             have A51 := Aside0.mk A510
             clear A510
             by_cases c52 : t144 = true
             ·
              subst c52
              have H1 := H
              rw [if_pos rfl] at H1
              clear H
              have H := H1
              clear H1
              obtain rfl := Option.some.inj H
              have hnb53 := NB140_139.out
              have hnc53 := NB139_140.out
              have hcz54_0 : wc.cell? ⟨gb140, 0, none⟩ = some (.string a1_0) := (blk_cell BK140.out 0).trans rfl
              have hcz54_1 : wc.cell? ⟨gb140, 1, none⟩ = some (.string a1_1) := (blk_cell BK140.out 1).trans rfl
              have hcz54_2 : wc.cell? ⟨gb140, 2, none⟩ = some (.string a1_2) := (blk_cell BK140.out 2).trans rfl
              have hcz54_3 : wc.cell? ⟨gb140, 3, none⟩ = some (.bool a1_3) := (blk_cell BK140.out 3).trans rfl
              have hfz54_0 := blk_frozen BK140.out 0
              have hfz54_1 := blk_frozen BK140.out 1
              have hfz54_2 := blk_frozen BK140.out 2
              have hfz54_3 := blk_frozen BK140.out 3
              go_wp2_with (first | ((with_reducible refine gate_callee (f := 33) rfl ?_); refine goesM_ (some 74) Try.func33 #[.string a1_0] ?_; (with_reducible refine (label_Head.calls a1_0 true _ A49.out).mono ?_); rintro e w55 ⟨rfl, hb⟩; refine ⟨_, rfl, ?_⟩; have n0_ := Aside0.mk (blk_below (g := gb139) (o := .cells #[.string a0_0, .slice A0_1 l0_1.length c0_1] 24 (0, 0)) (kz_ BK139.out) hb); have n1_ := Aside0.mk (blk_below (g := gb140) (o := .cells #[.string a1_0, .string a1_1, .string a1_2, .bool a1_3] 34 (0, 0)) (kz_ BK140.out) hb); have n2_ := Aside0.mk (below_step (bs2_ GE139.out GE140.out) hb); clear BK139; clear BK140; clear HB; have BK139 := n0_; have BK140 := n1_; have HB := n2_; clear n0_ n1_ n2_; (try clear hb); (try clear hb2); (try clear hk); (try clear hi); have hcz56_0 : w55.cell? ⟨gb140, 0, none⟩ = some (.string a1_0) := (blk_cell BK140.out 0).trans rfl; have hcz56_1 : w55.cell? ⟨gb140, 1, none⟩ = some (.string a1_1) := (blk_cell BK140.out 1).trans rfl; have hcz56_2 : w55.cell? ⟨gb140, 2, none⟩ = some (.string a1_2) := (blk_cell BK140.out 2).trans rfl; have hcz56_3 : w55.cell? ⟨gb140, 3, none⟩ = some (.bool a1_3) := (blk_cell BK140.out 3).trans rfl; have hfz56_0 := blk_frozen BK140.out 0; have hfz56_1 := blk_frozen BK140.out 1; have hfz56_2 := blk_frozen BK140.out 2; have hfz56_3 := blk_frozen BK140.out 3) | (go_at_call 9; refine (refs_whyW.fwd kj35 gq A2 c2 F t141 a1_2 true _ (blk_below HQ.out HB.out) (Kd.C_below HR2.out HB.out) HC2.out A51.out).mono ?_; rintro e w9 ⟨rfl, hbF⟩; have n0_ := Aside0.mk (below_step HB.out hbF); clear HB; have HB := n0_; clear n0_ hbF))
              go_ret
              exact ⟨xz_, bs2_ GE139.out GE140.out⟩
             ·
              replace c52 := Bool.eq_false_iff.mpr c52
              subst c52
              have H1 := H
              rw [if_neg (show ¬ (false = true) by decide)] at H1
              clear H
              have H := H1
              clear H1
              obtain rfl := Option.some.inj H
              have hnb57 := NB140_139.out
              have hnc57 := NB139_140.out
              have hcz58_0 : wc.cell? ⟨gb140, 0, none⟩ = some (.string a1_0) := (blk_cell BK140.out 0).trans rfl
              have hcz58_1 : wc.cell? ⟨gb140, 1, none⟩ = some (.string a1_1) := (blk_cell BK140.out 1).trans rfl
              have hcz58_2 : wc.cell? ⟨gb140, 2, none⟩ = some (.string a1_2) := (blk_cell BK140.out 2).trans rfl
              have hcz58_3 : wc.cell? ⟨gb140, 3, none⟩ = some (.bool a1_3) := (blk_cell BK140.out 3).trans rfl
              have hfz58_0 := blk_frozen BK140.out 0
              have hfz58_1 := blk_frozen BK140.out 1
              have hfz58_2 := blk_frozen BK140.out 2
              have hfz58_3 := blk_frozen BK140.out 3
              go_wp2_with (first | ((with_reducible refine gate_callee (f := 33) rfl ?_); refine goesM_ (some 74) Try.func33 #[.string a1_0] ?_; (with_reducible refine (label_Head.calls a1_0 true _ A49.out).mono ?_); rintro e w59 ⟨rfl, hb⟩; refine ⟨_, rfl, ?_⟩; have n0_ := Aside0.mk (blk_below (g := gb139) (o := .cells #[.string a0_0, .slice A0_1 l0_1.length c0_1] 24 (0, 0)) (kz_ BK139.out) hb); have n1_ := Aside0.mk (blk_below (g := gb140) (o := .cells #[.string a1_0, .string a1_1, .string a1_2, .bool a1_3] 34 (0, 0)) (kz_ BK140.out) hb); have n2_ := Aside0.mk (below_step (bs2_ GE139.out GE140.out) hb); clear BK139; clear BK140; clear HB; have BK139 := n0_; have BK140 := n1_; have HB := n2_; clear n0_ n1_ n2_; (try clear hb); (try clear hb2); (try clear hk); (try clear hi); have hcz60_0 : w59.cell? ⟨gb140, 0, none⟩ = some (.string a1_0) := (blk_cell BK140.out 0).trans rfl; have hcz60_1 : w59.cell? ⟨gb140, 1, none⟩ = some (.string a1_1) := (blk_cell BK140.out 1).trans rfl; have hcz60_2 : w59.cell? ⟨gb140, 2, none⟩ = some (.string a1_2) := (blk_cell BK140.out 2).trans rfl; have hcz60_3 : w59.cell? ⟨gb140, 3, none⟩ = some (.bool a1_3) := (blk_cell BK140.out 3).trans rfl; have hfz60_0 := blk_frozen BK140.out 0; have hfz60_1 := blk_frozen BK140.out 1; have hfz60_2 := blk_frozen BK140.out 2; have hfz60_3 := blk_frozen BK140.out 3) | (go_at_call 9; refine (refs_whyW.fwd kj35 gq A2 c2 F t141 a1_2 false _ (blk_below HQ.out HB.out) (Kd.C_below HR2.out HB.out) HC2.out A51.out).mono ?_; rintro e w9 ⟨rfl, hbF⟩; have n0_ := Aside0.mk (below_step HB.out hbF); clear HB; have HB := n0_; clear n0_ hbF))
              go_ret
              exact ⟨xz_, bs2_ GE139.out GE140.out⟩
            ·
             replace c50 := Bool.eq_false_iff.mpr c50
             subst c50
             have H1 := H
             rw [if_neg (show ¬ (false = true) by decide)] at H1
             clear H
             have H := H1
             clear H1
             obtain rfl := Option.some.inj H
             have hnb61 := NB140_139.out
             have hnc61 := NB139_140.out
             have hcz62_0 : wc.cell? ⟨gb140, 0, none⟩ = some (.string a1_0) := (blk_cell BK140.out 0).trans rfl
             have hcz62_1 : wc.cell? ⟨gb140, 1, none⟩ = some (.string a1_1) := (blk_cell BK140.out 1).trans rfl
             have hcz62_2 : wc.cell? ⟨gb140, 2, none⟩ = some (.string a1_2) := (blk_cell BK140.out 2).trans rfl
             have hcz62_3 : wc.cell? ⟨gb140, 3, none⟩ = some (.bool a1_3) := (blk_cell BK140.out 3).trans rfl
             have hfz62_0 := blk_frozen BK140.out 0
             have hfz62_1 := blk_frozen BK140.out 1
             have hfz62_2 := blk_frozen BK140.out 2
             have hfz62_3 := blk_frozen BK140.out 3
             go_wp2_with (first | ((with_reducible refine gate_callee (f := 33) rfl ?_); refine goesM_ (some 74) Try.func33 #[.string a1_0] ?_; (with_reducible refine (label_Head.calls a1_0 false _ A49.out).mono ?_); rintro e w63 ⟨rfl, hb⟩; refine ⟨_, rfl, ?_⟩; have n0_ := Aside0.mk (blk_below (g := gb139) (o := .cells #[.string a0_0, .slice A0_1 l0_1.length c0_1] 24 (0, 0)) (kz_ BK139.out) hb); have n1_ := Aside0.mk (blk_below (g := gb140) (o := .cells #[.string a1_0, .string a1_1, .string a1_2, .bool a1_3] 34 (0, 0)) (kz_ BK140.out) hb); have n2_ := Aside0.mk (below_step (bs2_ GE139.out GE140.out) hb); clear BK139; clear BK140; clear HB; have BK139 := n0_; have BK140 := n1_; have HB := n2_; clear n0_ n1_ n2_; (try clear hb); (try clear hb2); (try clear hk); (try clear hi)))
             go_ret
             exact ⟨xz_, bs2_ GE139.out GE140.out⟩
     ·
      rw [if_neg c25] at H
      have c25b0 : (t141.toList == a1_1.toList) = false := beq_eq_false_iff_ne.mpr c25
      have c25b1 : (t141.toList != a1_1.toList) = true := bne_iff_ne.mpr c25
      obtain rfl := Option.some.inj H
      have hnb64 := NB140_139.out
      have hnc64 := NB139_140.out
      have hcz65_0 : wc.cell? ⟨gb140, 0, none⟩ = some (.string a1_0) := (blk_cell BK140.out 0).trans rfl
      have hcz65_1 : wc.cell? ⟨gb140, 1, none⟩ = some (.string a1_1) := (blk_cell BK140.out 1).trans rfl
      have hcz65_2 : wc.cell? ⟨gb140, 2, none⟩ = some (.string a1_2) := (blk_cell BK140.out 2).trans rfl
      have hcz65_3 : wc.cell? ⟨gb140, 3, none⟩ = some (.bool a1_3) := (blk_cell BK140.out 3).trans rfl
      have hfz65_0 := blk_frozen BK140.out 0
      have hfz65_1 := blk_frozen BK140.out 1
      have hfz65_2 := blk_frozen BK140.out 2
      have hfz65_3 := blk_frozen BK140.out 3
      go_wp2
      go_ret
      exact ⟨xz_, bs2_ GE139.out GE140.out⟩
 · replace c6 := Bool.eq_false_iff.mpr c6
   subst c6
   have H1 := H
   rw [if_neg (show ¬ (false = true) by decide)] at H1
   clear H
   have H := H1
   clear H1
   obtain rfl := Option.some.inj H
   go_enter Try.func26, Try.ntmps26
   go_wp2_with (first | ((with_reducible refine gate_dst (N := 3) rfl ?_); (try (refine gate_guard (by rfl) ?_; dsimp only)); refine box_event ?hg (N := 3) ?hd (cs := #[.string a0_0, .slice A0_1 l0_1.length c0_1]) (t := 24) ?hr ?_; (case hd => rfl); (case hg => rfl); (case hr => first | (go_simp; done) | (go_simp; rfl)); intro gb139 hg w66 hbox hb; have n0_ := Aside0.mk (below_step bz_ hb); have n1_ := Aside0.mk (hbox); have n2_ := Aside0.mk ((by rw [hg]; exact (below_size bz_) : w.heap.size ≤ gb139)); have n3_ := Aside0.mk ((by rw [hg]; exact (below_size bz_) : w.heap.size ≤ gb139)); clear HB; have HB := n0_; have BK139 := n1_; have GW139 := n2_; have GE139 := n3_; clear n0_ n1_ n2_ n3_; clear hb hbox hg) | ((with_reducible refine gate_dst (N := 4) rfl ?_); (try (refine gate_guard (by rfl) ?_; dsimp only)); refine box_event ?hg (N := 4) ?hd (cs := #[.string a1_0, .string a1_1, .string a1_2, .bool a1_3]) (t := 34) ?hr ?_; (case hd => rfl); (case hg => rfl); (case hr => first | (go_simp; done) | (go_simp; rfl)); intro gb140 hg w67 hbox hb; have n0_ := Aside0.mk (blk_below (g := gb139) (o := .cells #[.string a0_0, .slice A0_1 l0_1.length c0_1] 24 (0, 0)) (kz_ BK139.out) hb); have n1_ := Aside0.mk (below_step (bs1_ GE139.out) hb); have n2_ := Aside0.mk (hbox); have n3_ := Aside0.mk ((by rw [hg]; exact (below_size (bs1_ GE139.out)) : w.heap.size ≤ gb140)); have n4_ := Aside0.mk ((by rw [hg]; exact (below_size (bs1_ GE139.out)) : w.heap.size ≤ gb140)); have n5_ := Aside0.mk ((by rw [hg]; exact Nat.ne_of_lt (blk_lt (g := gb139) (o := .cells #[.string a0_0, .slice A0_1 l0_1.length c0_1] 24 (0, 0)) (kz_ BK139.out)) : gb139 ≠ gb140)); have n6_ := Aside0.mk ((by rw [hg]; exact Nat.ne_of_gt (blk_lt (g := gb139) (o := .cells #[.string a0_0, .slice A0_1 l0_1.length c0_1] 24 (0, 0)) (kz_ BK139.out)) : gb140 ≠ gb139)); clear BK139; clear HB; have BK139 := n0_; have HB := n1_; have BK140 := n2_; have GW140 := n3_; have GE140 := n4_; have NB139_140 := n5_; have NB140_139 := n6_; clear n0_ n1_ n2_ n3_ n4_ n5_ n6_; clear hb hbox hg; have hnb68 := NB139_140.out; have hnc68 := NB140_139.out; have hcz69_0 : w67.cell? ⟨gb139, 0, none⟩ = some (.string a0_0) := (blk_cell BK139.out 0).trans rfl; have hcz69_1 : w67.cell? ⟨gb139, 1, none⟩ = some (.slice A0_1 l0_1.length c0_1) := (blk_cell BK139.out 1).trans rfl; have hfz69_0 := blk_frozen BK139.out 0; have hfz69_1 := blk_frozen BK139.out 1; have hcz70_0 : w67.cell? ⟨gb140, 0, none⟩ = some (.string a1_0) := (blk_cell BK140.out 0).trans rfl; have hcz70_1 : w67.cell? ⟨gb140, 1, none⟩ = some (.string a1_1) := (blk_cell BK140.out 1).trans rfl; have hcz70_2 : w67.cell? ⟨gb140, 2, none⟩ = some (.string a1_2) := (blk_cell BK140.out 2).trans rfl; have hcz70_3 : w67.cell? ⟨gb140, 3, none⟩ = some (.bool a1_3) := (blk_cell BK140.out 3).trans rfl; have hfz70_0 := blk_frozen BK140.out 0; have hfz70_1 := blk_frozen BK140.out 1; have hfz70_2 := blk_frozen BK140.out 2; have hfz70_3 := blk_frozen BK140.out 3) | ((with_reducible refine gate_callee (f := 21) rfl ?_); refine goesM_ (some 11) Try.func21 #[.agg #[.string a0_0, .slice A0_1 l0_1.length c0_1], .string a1_0] ?_; (with_reducible refine (refs_Get.calls k a0_0 _ _ l0_1 a1_0 t141 _ ?side1 ?side2 A4.out).mono ?_); (case side1 => repeat (first | exact (Kd.C_below HR0_1.out HB.out) | (with_reducible refine Kd.C_alloc ?_ _) | (with_reducible refine Kd.C_drewN ?_ _) | (with_reducible refine Kd.C_drew ?_))); (case side2 => exact HC0_1.out); rintro e w71 ⟨rfl, hb⟩; refine ⟨_, rfl, ?_⟩; have n0_ := Aside0.mk (blk_below (g := gb139) (o := .cells #[.string a0_0, .slice A0_1 l0_1.length c0_1] 24 (0, 0)) (kz_ BK139.out) hb); have n1_ := Aside0.mk (blk_below (g := gb140) (o := .cells #[.string a1_0, .string a1_1, .string a1_2, .bool a1_3] 34 (0, 0)) (kz_ BK140.out) hb); have n2_ := Aside0.mk (below_step (bs2_ GE139.out GE140.out) hb); clear BK139; clear BK140; clear HB; have BK139 := n0_; have BK140 := n1_; have HB := n2_; clear n0_ n1_ n2_; (try clear hb); (try clear hb2); (try clear hk); (try clear hi); have hcz72_0 : w71.cell? ⟨gb140, 0, none⟩ = some (.string a1_0) := (blk_cell BK140.out 0).trans rfl; have hcz72_1 : w71.cell? ⟨gb140, 1, none⟩ = some (.string a1_1) := (blk_cell BK140.out 1).trans rfl; have hcz72_2 : w71.cell? ⟨gb140, 2, none⟩ = some (.string a1_2) := (blk_cell BK140.out 2).trans rfl; have hcz72_3 : w71.cell? ⟨gb140, 3, none⟩ = some (.bool a1_3) := (blk_cell BK140.out 3).trans rfl; have hfz72_0 := blk_frozen BK140.out 0; have hfz72_1 := blk_frozen BK140.out 1; have hfz72_2 := blk_frozen BK140.out 2; have hfz72_3 := blk_frozen BK140.out 3) | ((with_reducible refine gate_callee (f := 34) rfl ?_); refine goesM_ (some 15) Try.func34 #[.string a1_0] ?_; (with_reducible refine (label_Ref.calls a1_0 false _ A5.out).mono ?_); rintro e w73 ⟨rfl, hb⟩; refine ⟨_, rfl, ?_⟩; have n0_ := Aside0.mk (blk_below (g := gb139) (o := .cells #[.string a0_0, .slice A0_1 l0_1.length c0_1] 24 (0, 0)) (kz_ BK139.out) hb); have n1_ := Aside0.mk (blk_below (g := gb140) (o := .cells #[.string a1_0, .string a1_1, .string a1_2, .bool a1_3] 34 (0, 0)) (kz_ BK140.out) hb); have n2_ := Aside0.mk (below_step (bs2_ GE139.out GE140.out) hb); clear BK139; clear BK140; clear HB; have BK139 := n0_; have BK140 := n1_; have HB := n2_; clear n0_ n1_ n2_; (try clear hb); (try clear hb2); (try clear hk); (try clear hi)))
   go_ret
   exact ⟨xz_, bs2_ GE139.out GE140.out⟩

/-- The updates, one behind the other. -/
def refs_ApplyW.go (F : List (S37)) (k : Nat) (h : ByteArray) (l : List (S50)) : List (S34) → List (S34) → ByteArray → List (S50) → Option (ByteArray × List (S50) × Int)
 | _, [], oh, ol => if (ol.length : Int) > 256 then some (h, l, 3) else some (oh, ol, 0)
 | done, u :: us, oh, ol => if 0 ≤ refs_Apply.find u.f0 done 0 then some (h, l, 1) else (refs_whyW.f F k h l u.f0 u.f1 u.f2 u.f3).bind fun e => if e = 0 then (refs_set.f k oh ol u.f0 u.f2).bind fun r => refs_ApplyW.go F k h l (done ++ [u]) us r.1 r.2 else some (h, l, e)
def refs_ApplyW.f (k : Nat) (a0_0 : ByteArray) (l0_1 : List (S50)) (l1 : List (S34)) (F : List (S37)) : Option (ByteArray × List (S50) × Int) := if (l1.length : Int) > 256 then some (a0_0, l0_1, 3) else (refs_Check.f k a0_0 l0_1).bind fun e => if e = 0 then (if l0_1.length ≤ 100000 then refs_ApplyW.go F k a0_0 l0_1 [] l1 a0_0 l0_1 else none) else some (a0_0, l0_1, e)
theorem refs_ApplyW.mono : ∀ a0 a1 a2 F k, LeO (refs_ApplyW.f k a0 a1 a2 F) (refs_ApplyW.f (k + 1) a0 a1 a2 F) := by
 intro a0 a1 a2 F k
 have go : ∀ (us done : List (S34)) (oh : ByteArray) (ol : List (S50)), LeO (refs_ApplyW.go F k a0 a1 done us oh ol) (refs_ApplyW.go F (k + 1) a0 a1 done us oh ol) := by
  intro us
  induction us with
  | nil => intro done oh ol; exact LeO.refl _
  | cons u us ih =>
   intro done oh ol
   simp only [refs_ApplyW.go]
   exact LeO.ite (LeO.refl _) (LeO.bind (refs_whyW.mono F _ _ _ _ _ _ _) (fun _ => LeO.ite (LeO.bind (refs_set.mono _ _ _ _ _) (fun _ => ih _ _ _)) (LeO.refl _)))
 unfold refs_ApplyW.f
 exact LeO.ite (LeO.refl _) (LeO.bind (refs_Check.mono _ _ _) (fun _ => LeO.ite (LeO.ite (go _ _ _ _) (LeO.refl _)) (LeO.refl _)))
set_option maxHeartbeats 4000000 in
set_option maxRecDepth 100000 in
theorem refs_ApplyW.calls (k : Nat) (a0_0 : ByteArray) (P0_1_ : Nat → Prop) (A0_1 : Option Addr) (c0_1 : Nat) (l0_1 : List (S50)) (A1 : Option Addr) (c1 : Nat) (l1 : List (S34)) (A2 : Option Addr) (c2 : Nat) (F : List (S37)) (r1 : ByteArray) (r2 : List (S50)) (r3 : Int) (w : World) (hs0_1 : Kd.V k50 50 w w.heap.size (fun k_ => P0_1_ k_) (.slice A0_1 l0_1.length c0_1) l0_1) (hr1 : Kd.C k34 w A1 l1.length l1) (hc1 : l1.length ≤ c1) (hr2 : Kd.C k37 w A2 F.length F) (hc2 : F.length ≤ c2) (h : refs_ApplyW.f k a0_0 l0_1 l1 F = some (r1, r2, r3)) {gq : Nat} (hq : w.heap[gq]? = some (.cells #[.slice A2 F.length c2] 36 (0, 0))) :
 Calls Try.prog 8 #[.agg #[.string a0_0, .slice A0_1 l0_1.length c0_1], .slice A1 l1.length c1, .func (.func 9) #[] #[.pointer (some ⟨gq, 0, none⟩)]] w fun e w' => ∃ v1_ : Value, e = .returned (.tuple #[.agg #[.string r1, v1_], .int .i64 r3]) ∧ Kd.V k50 50 w' w.heap.size (fun k_ => (P0_1_ k_ ∨ w.heap.size ≤ k_)) v1_ r2 ∧ Below w.heap.size w w' := by
 have HS := Aside0.mk hs0_1
 have HQ := Aside0.mk hq
 have HR2 := Aside0.mk hr2
 have HC2 := Aside0.mk hc2
 clear hq hr2 hc2
 obtain ⟨_, hc0, hr0⟩ := Kd.V_reads' hs0_1
 have HR := Aside0.mk hr0
 have HC := Aside0.mk hc0
 have HU := Aside0.mk hr1
 have HCU := Aside0.mk hc1
 have HB := Aside0.mk (Below.refl w.heap.size w)
 clear hs0_1 hr0 hc0 hr1 hc1
 unfold refs_ApplyW.f at h
 by_cases d1 : (l1.length : Int) > 256
 ·
  rw [if_pos d1] at h
  have h := Option.some.inj h
  simp only [Prod.mk.injEq] at h
  obtain ⟨rfl, rfl, rfl⟩ := h
  have d1b0 : decide (256 < (l1.length : Int)) = true := decide_eq_true d1
  have d1b1 : decide (256 < l1.length) = true := decide_eq_true (by omega)
  clear d1
  go_enter Try.func8, Try.ntmps8
  go_wp2_with (first
   | ((with_reducible refine gate_dst (N := 3) rfl ?_); refine box_event ?hg (N := 3) ?hd (cs := #[.string a0_0, .slice A0_1 l0_1.length c0_1]) (t := 24) ?hr ?_; (case hd => rfl); (case hg => rfl); (case hr => first | (go_simp; done) | (go_simp; rfl)); intro g3 hg w4 hbox hb; have HB4 := Aside0.mk (below_step HB.out hb); have BK3 := Aside0.mk hbox; have GE3 := Aside0.mk ((by rw [hg]; exact Nat.le_refl _) : w.heap.size ≤ g3); clear hb hbox hg)
   | ((with_reducible refine gate_dst (N := 6) rfl ?_); refine box_event ?hg (N := 6) ?hd (cs := #[.string (⟨#[]⟩ : ByteArray), .slice none 0 0]) (t := 24) ?hr ?_; (case hd => rfl); (case hg => rfl); (case hr => first | (go_simp; done) | (go_simp; rfl)); intro g6 hg w5 hbox hb; have HB5 := Aside0.mk (below_step HB4.out hb); have NB36 := Aside0.mk ((by rw [hg]; exact Nat.ne_of_lt (blk_lt BK3.out)) : g3 ≠ g6); have BK3_5 := Aside0.mk (blk_below BK3.out hb); have BK6_5 := Aside0.mk hbox; have GE6 := Aside0.mk ((by rw [hg]; exact HB4.out.size) : w.heap.size ≤ g6); have hz50 : w5.cell? ⟨g3, 0, none⟩ = some (.string a0_0) := (blk_cell BK3_5.out 0).trans rfl; have hz51 : w5.cell? ⟨g3, 1, none⟩ = some (.slice A0_1 l0_1.length c0_1) := (blk_cell BK3_5.out 1).trans rfl; have hz52 : w5.cell? ⟨g6, 0, none⟩ = some (.string (⟨#[]⟩ : ByteArray)) := (blk_cell BK6_5.out 0).trans rfl; have hz53 : w5.cell? ⟨g6, 1, none⟩ = some (.slice none 0 0) := (blk_cell BK6_5.out 1).trans rfl; have hf52 := blk_frozen BK6_5.out 0; have hf53 := blk_frozen BK6_5.out 1; have ne36 := NB36.out; have ne63 := NB36.out.symm; clear hb hbox hg))
  have Q1 : (w5.setCell ⟨g6, 0, none⟩ (.string a0_0)).heap[g6]? = some (.cells #[.string a0_0, .slice none 0 0] 24 (0, 0)) := blk_put BK6_5.out 0 _ rfl
  refine bodyPost_ret (results_ct rfl _ _ g6 24 #[.string a0_0, .slice A0_1 l0_1.length c0_1] (0, 0) _ rfl (blk_put Q1 1 _ rfl) Try.underlying24 rfl (by kernel_rfl)) rfl ?_
  have HBf := below_set (j := 1) (v := .slice A0_1 l0_1.length c0_1) (below_set (j := 0) (v := .string a0_0) HB5.out GE6.out) GE6.out
  exact ⟨_, rfl, Kd.V_mono (Kd.V_below HS.out HBf) (fun _ hk => .inl hk), HBf⟩
 ·
  rw [if_neg d1] at h
  have d1b0 : decide (256 < (l1.length : Int)) = false := decide_eq_false d1
  have d1b1 : decide (256 < l1.length) = false := decide_eq_false (by omega)
  have LU := Aside0.mk (show l1.length ≤ 256 by omega)
  clear d1
  obtain ⟨ec, hec, h⟩ := Option.bind_eq_some_iff.mp h
  have PC := Aside0.mk hec
  clear hec
  by_cases d2 : ec = 0
  ·
   rw [if_pos d2] at h
   subst d2
   by_cases d3 : l0_1.length ≤ 100000
   ·
    rw [if_pos d3] at h
    have LM := Aside0.mk d3
    have HG := Aside0.mk h
    clear d3 h
    go_enter Try.func8, Try.ntmps8
    go_wp2_with (first
     | ((with_reducible refine gate_dst (N := 3) rfl ?_); refine box_event ?hg (N := 3) ?hd (cs := #[.string a0_0, .slice A0_1 l0_1.length c0_1]) (t := 24) ?hr ?_; (case hd => rfl); (case hg => rfl); (case hr => first | (go_simp; done) | (go_simp; rfl)); intro g3 hg w4 hbox hb; have HB4 := Aside0.mk (below_step HB.out hb); have BK3 := Aside0.mk hbox; have GE3 := Aside0.mk ((by rw [hg]; exact Nat.le_refl _) : w.heap.size ≤ g3); clear hb hbox hg)
     | ((with_reducible refine gate_dst (N := 6) rfl ?_); refine box_event ?hg (N := 6) ?hd (cs := #[.string (⟨#[]⟩ : ByteArray), .slice none 0 0]) (t := 24) ?hr ?_; (case hd => rfl); (case hg => rfl); (case hr => first | (go_simp; done) | (go_simp; rfl)); intro g6 hg w5 hbox hb; have HB5 := Aside0.mk (below_step HB4.out hb); have NB36 := Aside0.mk ((by rw [hg]; exact Nat.ne_of_lt (blk_lt BK3.out)) : g3 ≠ g6); have BK3_5 := Aside0.mk (blk_below BK3.out hb); have BK6_5 := Aside0.mk hbox; have GE6 := Aside0.mk ((by rw [hg]; exact HB4.out.size) : w.heap.size ≤ g6); have hz50 : w5.cell? ⟨g3, 0, none⟩ = some (.string a0_0) := (blk_cell BK3_5.out 0).trans rfl; have hz51 : w5.cell? ⟨g3, 1, none⟩ = some (.slice A0_1 l0_1.length c0_1) := (blk_cell BK3_5.out 1).trans rfl; have hz52 : w5.cell? ⟨g6, 0, none⟩ = some (.string (⟨#[]⟩ : ByteArray)) := (blk_cell BK6_5.out 0).trans rfl; have hz53 : w5.cell? ⟨g6, 1, none⟩ = some (.slice none 0 0) := (blk_cell BK6_5.out 1).trans rfl; have hf52 := blk_frozen BK6_5.out 0; have hf53 := blk_frozen BK6_5.out 1; have ne36 := NB36.out; have ne63 := NB36.out.symm; clear hb hbox hg)
     | (go_at_call 18; refine (refs_Check.calls k a0_0 A0_1 c0_1 l0_1 0 _ (Kd.C_below HR.out HB5.out) HC.out PC.out).mono ?_; rintro e w6 ⟨rfl, hb⟩; have HB6 := Aside0.mk (below_step HB5.out hb); have BK3_6 := Aside0.mk (blk_below BK3_5.out hb); have BK6_6 := Aside0.mk (blk_below BK6_5.out hb); have hz6a0 : w6.cell? ⟨g3, 0, none⟩ = some (.string a0_0) := (blk_cell BK3_6.out 0).trans rfl; have hz6a1 : w6.cell? ⟨g3, 1, none⟩ = some (.slice A0_1 l0_1.length c0_1) := (blk_cell BK3_6.out 1).trans rfl; have hf6a0 := blk_frozen BK3_6.out 0; have hf6a1 := blk_frozen BK3_6.out 1; have hz6b0 : w6.cell? ⟨g6, 0, none⟩ = some (.string (⟨#[]⟩ : ByteArray)) := (blk_cell BK6_6.out 0).trans rfl; have hz6b1 : w6.cell? ⟨g6, 1, none⟩ = some (.slice none 0 0) := (blk_cell BK6_6.out 1).trans rfl; have hf6b0 := blk_frozen BK6_6.out 0; have hf6b1 := blk_frozen BK6_6.out 1; clear hb)
     | ((with_reducible refine gate_dst (N := 9) rfl ?_); refine box_event ?hg (N := 9) ?hd (cs := #[.string (⟨#[]⟩ : ByteArray), .slice none 0 0]) (t := 24) ?hr ?_; (case hd => rfl); (case hg => rfl); (case hr => first | (go_simp; done) | (go_simp; rfl)); intro g9 hg w7 hbox hb; have HB7 := Aside0.mk (below_step HB6.out hb); have NB39 := Aside0.mk ((by rw [hg]; exact Nat.ne_of_lt (blk_lt BK3_6.out)) : g3 ≠ g9); have NB69 := Aside0.mk ((by rw [hg]; exact Nat.ne_of_lt (blk_lt BK6_6.out)) : g6 ≠ g9); have BK3_7 := Aside0.mk (blk_below BK3_6.out hb); have BK6_7 := Aside0.mk (blk_below BK6_6.out hb); have BK9_7 := Aside0.mk hbox; have GE9 := Aside0.mk ((by rw [hg]; exact HB6.out.size) : w.heap.size ≤ g9); have hz7a0 : w7.cell? ⟨g3, 0, none⟩ = some (.string a0_0) := (blk_cell BK3_7.out 0).trans rfl; have hz7a1 : w7.cell? ⟨g3, 1, none⟩ = some (.slice A0_1 l0_1.length c0_1) := (blk_cell BK3_7.out 1).trans rfl; have hf7a0 := blk_frozen BK3_7.out 0; have hf7a1 := blk_frozen BK3_7.out 1; have hz7c0 : w7.cell? ⟨g9, 0, none⟩ = some (.string (⟨#[]⟩ : ByteArray)) := (blk_cell BK9_7.out 0).trans rfl; have hz7c1 : w7.cell? ⟨g9, 1, none⟩ = some (.slice none 0 0) := (blk_cell BK9_7.out 1).trans rfl; have hf7c0 := blk_frozen BK9_7.out 0; have hf7c1 := blk_frozen BK9_7.out 1; have ne39 := NB39.out; have ne93 := NB39.out.symm; have ne69 := NB69.out; have ne96 := NB69.out.symm; clear hb hbox hg)
     | (go_at_call 23; refine (refs_set.clone A0_1 c0_1 l0_1 _ (Kd.C_below HR.out (below_set (below_set HB7.out GE9.out) GE9.out)) HC.out LM.out).mono ?_; rintro e w9 ⟨v9, rfl, hR9, hb⟩; obtain ⟨A9, c9, rfl⟩ := Kd.R_slice hR9; have HB8 := Aside0.mk (below_set (j := 1) (v := .slice A0_1 l0_1.length c0_1) (below_set (j := 0) (v := .string a0_0) HB7.out GE9.out) GE9.out); have HR9 := Aside0.mk (Kd.R_lower hR9 HB8.out.size); have HB9 := Aside0.mk (below_step HB8.out hb); have BK3_9 := Aside0.mk (blk_below (blk_far (blk_far BK3_7.out ne39 _) ne39 _) hb); have BK6_9 := Aside0.mk (blk_below (blk_far (blk_far BK6_7.out ne69 _) ne69 _) hb); have BK9_9 := Aside0.mk (blk_below (blk_put (cs' := #[.string a0_0, .slice A0_1 l0_1.length c0_1]) (blk_put (cs' := #[.string a0_0, .slice none 0 0]) BK9_7.out 0 _ rfl) 1 _ rfl) hb); have hz9c0 : w9.cell? ⟨g9, 0, none⟩ = some (.string a0_0) := (blk_cell BK9_9.out 0).trans rfl; have hz9c1 : w9.cell? ⟨g9, 1, none⟩ = some (.slice A0_1 l0_1.length c0_1) := (blk_cell BK9_9.out 1).trans rfl; have hf9c0 := blk_frozen BK9_9.out 0; have hf9c1 := blk_frozen BK9_9.out 1; clear hb hR9))
    go_loopw [30] (fun v30 wr => ∃ (x : Int) (oh : ByteArray) (ol : List (S50)) (A9 : Option Addr) (c9 : Nat), v30 = .int .i64 x ∧ 0 ≤ x ∧ x ≤ (l1.length : Int) ∧ Aside0 (refs_ApplyW.go F k a0_0 l0_1 (l1.take x.toNat) (l1.drop x.toNat) oh ol = some (r1, r2, r3)) ∧ Aside0 (Kd.R k50 50 wr w.heap.size (fun _ => True) (.slice A9 ol.length c9) ol) ∧ Aside0 (wr.heap[g3]? = some (.cells #[.string a0_0, .slice A0_1 l0_1.length c0_1] 24 (0, 0))) ∧ Aside0 (wr.heap[g6]? = some (.cells #[.string (⟨#[]⟩ : ByteArray), .slice none 0 0] 24 (0, 0))) ∧ Aside0 (wr.heap[g9]? = some (.cells #[.string oh, .slice A9 ol.length c9] 24 (0, 0))) ∧ Aside0 (Below w.heap.size w wr)) (fun v30 _ => l1.length - (intOf v30).toNat)
    case atStart => exact ⟨0, a0_0, l0_1, A9, c9, rfl, by omega, by omega, HG, ⟨Kd.R_set HR9.out BK9_9.out (by decide) 1 _⟩, ⟨blk_far BK3_9.out ne39 _⟩, ⟨blk_far BK6_9.out ne69 _⟩, ⟨blk_put BK9_9.out 1 _ rfl⟩, ⟨below_set HB9.out GE9.out⟩⟩
    case round =>
     obtain ⟨x, oh, ol, A9, c9, rfl, h0, h1, HA, HRr, BK3r, BK6r, BK9r, HBr⟩ := hrel
     clear HG HR9 BK9_9 BK3_9 BK6_9 HB9 HB8 hz9c0 hz9c1 hf9c0 hf9c1 hz7a0 hz7a1 hz7c0 hz7c1 hf7a0 hf7a1 hf7c0 hf7c1 hz6b0 hz6b1 hf6b0 hf6b1 hz6a0 hz6a1 hf6a0 hf6a1 hz50 hz51 hz52 hz53 hf52 hf53
     have hlm := LU.out
     by_cases hlt : x < (l1.length : Int)
     ·
      have hA := HA.out
      obtain ⟨ad, e, hx0, hx1, hx2, hx3⟩ := at_T34 HU.out x h0 hlt
      subst e
      have hnext : l1.take (x + 1).toNat = l1.take x.toNat ++ [rd_T34 l1 x] := refs_Apply.take l1 x h0 hlt
      rw [refs_Apply.drop l1 x h0 hlt] at hA
      obtain ⟨p, hp⟩ : ∃ q, rd_T34 l1 x = q := ⟨_, rfl⟩
      rw [hp] at hA hx0 hx1 hx2 hx3 hnext
      obtain ⟨P0, P1, P2, P3⟩ := p
      obtain ⟨i0, hi0, _, hsz0, _⟩ := info_parts refs_Apply.info
      obtain ⟨dn, hdn⟩ : ∃ d_, d_ = l1.take x.toNat := ⟨_, rfl⟩
      have hdl : dn.length = x.toNat := by rw [hdn, List.length_take]; omega
      have hcut : ∀ W : World, (Instr.slice 25 (.slice (some ad) l1.length c1) none (some (.int .i64 x)) none).run Try.prog W = .ok (.slice (some ad) dn.length c1) W := by
       rw [hdl]
       exact cut_to 25 34 .i64 Try.underlying25 hi0 (some ad) l1.length c1 x h0 h1 HCU.out
      have HD := Aside0.mk (show Kd.C k34 w (some ad) dn.length dn by rw [hdn]; exact Kd.C_take HU.out (by omega))
      have LD := Aside0.mk (show dn.length ≤ 100000 by omega)
      rw [← hdn] at hA hnext
      simp only [refs_ApplyW.go] at hA
      dsimp only at hx0 hx1 hx2 hx3
      replace hx0 := (HBr.out.cell (World.block_lt_of_cell? w _ hx0)).trans hx0
      replace hx1 := (HBr.out.cell (World.block_lt_of_cell? w _ hx1)).trans hx1
      replace hx2 := (HBr.out.cell (World.block_lt_of_cell? w _ hx2)).trans hx2
      replace hx3 := (HBr.out.cell (World.block_lt_of_cell? w _ hx3)).trans hx3
      have HN := Aside0.mk hnext
      have e1 : IntKind.i64.wrap (x + 1) = x + 1 := IntWalk.i64_in _ (by omega)
      clear hp hdn hdl hi0 hnext HA
      by_cases d4 : 0 ≤ refs_Apply.find P0 dn 0
      · rw [if_pos d4] at hA
        have hA := Option.some.inj hA
        simp only [Prod.mk.injEq] at hA
        obtain ⟨rfl, rfl, rfl⟩ := hA
        have FD := Aside0.mk (show decide (0 ≤ refs_Apply.find P0 dn 0) = true from decide_eq_true d4)
        clear d4
        go_wp2_with (first
         | ((with_reducible refine gate_dst (N := 11) rfl ?_); refine box_event ?hg (N := 11) ?hd (cs := #[.string (⟨#[]⟩ : ByteArray), .string (⟨#[]⟩ : ByteArray), .string (⟨#[]⟩ : ByteArray), .bool false]) (t := 34) ?hr ?_; (case hd => rfl); (case hg => rfl); (case hr => first | (go_simp; done) | (go_simp; rfl)); intro g11 hg w10 hbox hb; have HB10 := Aside0.mk (below_step HBr.out hb); have HR10 := Aside0.mk (Kd.R_below HRr.out hb); have NB3_11 := Aside0.mk ((by rw [hg]; exact Nat.ne_of_lt (blk_lt BK3r.out)) : g3 ≠ g11); have NB6_11 := Aside0.mk ((by rw [hg]; exact Nat.ne_of_lt (blk_lt BK6r.out)) : g6 ≠ g11); have NB9_11 := Aside0.mk ((by rw [hg]; exact Nat.ne_of_lt (blk_lt BK9r.out)) : g9 ≠ g11); have BK3_10 := Aside0.mk (blk_below BK3r.out hb); have BK6_10 := Aside0.mk (blk_below BK6r.out hb); have BK9_10 := Aside0.mk (blk_below BK9r.out hb); have BK11_10 := Aside0.mk hbox; have GE11 := Aside0.mk ((by rw [hg]; exact HBr.out.size) : w.heap.size ≤ g11); have hza0 : w10.cell? ⟨g11, 0, none⟩ = some (.string (⟨#[]⟩ : ByteArray)) := (blk_cell BK11_10.out 0).trans rfl; have hfa0 := blk_frozen BK11_10.out 0; have hza1 : w10.cell? ⟨g11, 1, none⟩ = some (.string (⟨#[]⟩ : ByteArray)) := (blk_cell BK11_10.out 1).trans rfl; have hfa1 := blk_frozen BK11_10.out 1; have hza2 : w10.cell? ⟨g11, 2, none⟩ = some (.string (⟨#[]⟩ : ByteArray)) := (blk_cell BK11_10.out 2).trans rfl; have hfa2 := blk_frozen BK11_10.out 2; have hza3 : w10.cell? ⟨g11, 3, none⟩ = some (.bool false) := (blk_cell BK11_10.out 3).trans rfl; have hfa3 := blk_frozen BK11_10.out 3; have ne3b := NB3_11.out; have neb3 := NB3_11.out.symm; have ne6b := NB6_11.out; have neb6 := NB6_11.out.symm; have ne9b := NB9_11.out; have neb9 := NB9_11.out.symm; clear hb hbox hg)
         | (go_at_call 24; refine (refs_Apply.contains (some ad) c1 dn g11 P0 true _ (Kd.C_below HD.out (below_set (below_set (below_set (below_set HB10.out GE11.out) GE11.out) GE11.out) GE11.out)) ((blk_cell (blk_put (cs' := #[.string P0, .string P1, .string P2, .bool P3]) (blk_put (cs' := #[.string P0, .string P1, .string P2, .bool false]) (blk_put (cs' := #[.string P0, .string P1, .string (⟨#[]⟩ : ByteArray), .bool false]) (blk_put (cs' := #[.string P0, .string (⟨#[]⟩ : ByteArray), .string (⟨#[]⟩ : ByteArray), .bool false]) BK11_10.out 0 _ rfl) 1 _ rfl) 2 _ rfl) 3 _ rfl) 0).trans rfl) LD.out FD.out).mono ?_; rintro e w12 ⟨rfl, hb⟩; have HB12 := Aside0.mk (below_step (below_set (j := 3) (v := .bool P3) (below_set (j := 2) (v := .string P2) (below_set (j := 1) (v := .string P1) (below_set (j := 0) (v := .string P0) HB10.out GE11.out) GE11.out) GE11.out) GE11.out) hb); have HR12 := Aside0.mk (Kd.R_below (Kd.R_set (Kd.R_set (Kd.R_set (Kd.R_set HR10.out BK11_10.out (by decide) 0 _) (blk_put (cs' := #[.string P0, .string (⟨#[]⟩ : ByteArray), .string (⟨#[]⟩ : ByteArray), .bool false]) BK11_10.out 0 _ rfl) (by decide) 1 _) (blk_put (cs' := #[.string P0, .string P1, .string (⟨#[]⟩ : ByteArray), .bool false]) (blk_put (cs' := #[.string P0, .string (⟨#[]⟩ : ByteArray), .string (⟨#[]⟩ : ByteArray), .bool false]) BK11_10.out 0 _ rfl) 1 _ rfl) (by decide) 2 _) (blk_put (cs' := #[.string P0, .string P1, .string P2, .bool false]) (blk_put (cs' := #[.string P0, .string P1, .string (⟨#[]⟩ : ByteArray), .bool false]) (blk_put (cs' := #[.string P0, .string (⟨#[]⟩ : ByteArray), .string (⟨#[]⟩ : ByteArray), .bool false]) BK11_10.out 0 _ rfl) 1 _ rfl) 2 _ rfl) (by decide) 3 _) hb); have BK3_12 := Aside0.mk (blk_below (blk_far (blk_far (blk_far (blk_far BK3_10.out ne3b _) ne3b _) ne3b _) ne3b _) hb); have BK6_12 := Aside0.mk (blk_below (blk_far (blk_far (blk_far (blk_far BK6_10.out ne6b _) ne6b _) ne6b _) ne6b _) hb); have BK9_12 := Aside0.mk (blk_below (blk_far (blk_far (blk_far (blk_far BK9_10.out ne9b _) ne9b _) ne9b _) ne9b _) hb); have BK11_12 := Aside0.mk (blk_below (blk_put (cs' := #[.string P0, .string P1, .string P2, .bool P3]) (blk_put (cs' := #[.string P0, .string P1, .string P2, .bool false]) (blk_put (cs' := #[.string P0, .string P1, .string (⟨#[]⟩ : ByteArray), .bool false]) (blk_put (cs' := #[.string P0, .string (⟨#[]⟩ : ByteArray), .string (⟨#[]⟩ : ByteArray), .bool false]) BK11_10.out 0 _ rfl) 1 _ rfl) 2 _ rfl) 3 _ rfl) hb); have hz12a0 : w12.cell? ⟨g3, 0, none⟩ = some (.string a0_0) := (blk_cell BK3_12.out 0).trans rfl; have hz12a1 : w12.cell? ⟨g3, 1, none⟩ = some (.slice A0_1 l0_1.length c0_1) := (blk_cell BK3_12.out 1).trans rfl; have hf12a0 := blk_frozen BK3_12.out 0; have hf12a1 := blk_frozen BK3_12.out 1; have hz12b0 : w12.cell? ⟨g6, 0, none⟩ = some (.string (⟨#[]⟩ : ByteArray)) := (blk_cell BK6_12.out 0).trans rfl; have hz12b1 : w12.cell? ⟨g6, 1, none⟩ = some (.slice none 0 0) := (blk_cell BK6_12.out 1).trans rfl; have hf12b0 := blk_frozen BK6_12.out 0; have hf12b1 := blk_frozen BK6_12.out 1; have hz12c0 : w12.cell? ⟨g9, 0, none⟩ = some (.string oh) := (blk_cell BK9_12.out 0).trans rfl; have hz12c1 : w12.cell? ⟨g9, 1, none⟩ = some (.slice A9 ol.length c9) := (blk_cell BK9_12.out 1).trans rfl; have hf12c0 := blk_frozen BK9_12.out 0; have hf12c1 := blk_frozen BK9_12.out 1; have hz12d0 : w12.cell? ⟨g11, 0, none⟩ = some (.string P0) := (blk_cell BK11_12.out 0).trans rfl; have hz12d1 : w12.cell? ⟨g11, 1, none⟩ = some (.string P1) := (blk_cell BK11_12.out 1).trans rfl; have hz12d2 : w12.cell? ⟨g11, 2, none⟩ = some (.string P2) := (blk_cell BK11_12.out 2).trans rfl; have hz12d3 : w12.cell? ⟨g11, 3, none⟩ = some (.bool P3) := (blk_cell BK11_12.out 3).trans rfl; clear hb))
        have Q1 : (w12.setCell ⟨g6, 0, none⟩ (.string a0_0)).heap[g6]? = some (.cells #[.string a0_0, .slice none 0 0] 24 (0, 0)) := blk_put BK6_12.out 0 _ rfl
        refine bodyPost_ret (results_ct rfl _ _ g6 24 #[.string a0_0, .slice A0_1 l0_1.length c0_1] (0, 0) _ rfl (blk_put Q1 1 _ rfl) Try.underlying24 rfl (by kernel_rfl)) rfl ?_
        have HBf := below_set (j := 1) (v := .slice A0_1 l0_1.length c0_1) (below_set (j := 0) (v := .string a0_0) HB12.out GE6.out) GE6.out
        exact ⟨_, rfl, Kd.V_mono (Kd.V_below HS.out HBf) (fun _ hk => .inl hk), HBf⟩
      ·
       rw [if_neg d4] at hA
       have FD := Aside0.mk (show decide (0 ≤ refs_Apply.find P0 dn 0) = false from decide_eq_false d4)
       clear d4
       obtain ⟨ec, hec, hA⟩ := Option.bind_eq_some_iff.mp hA
       have WW := Aside0.mk hec
       clear hec
       by_cases d5 : ec = 0
       ·
        rw [if_pos d5] at hA
        subst d5
        obtain ⟨⟨rh, rl⟩, hset, hA⟩ := Option.bind_eq_some_iff.mp hA
        have SS := Aside0.mk hset
        have HA2 := Aside0.mk hA
        clear hset hA
        go_wp2_with (first
         | ((with_reducible refine gate_dst (N := 11) rfl ?_); refine box_event ?hg (N := 11) ?hd (cs := #[.string (⟨#[]⟩ : ByteArray), .string (⟨#[]⟩ : ByteArray), .string (⟨#[]⟩ : ByteArray), .bool false]) (t := 34) ?hr ?_; (case hd => rfl); (case hg => rfl); (case hr => first | (go_simp; done) | (go_simp; rfl)); intro g11 hg w10 hbox hb; have HB10 := Aside0.mk (below_step HBr.out hb); have HR10 := Aside0.mk (Kd.R_below HRr.out hb); have NB3_11 := Aside0.mk ((by rw [hg]; exact Nat.ne_of_lt (blk_lt BK3r.out)) : g3 ≠ g11); have NB6_11 := Aside0.mk ((by rw [hg]; exact Nat.ne_of_lt (blk_lt BK6r.out)) : g6 ≠ g11); have NB9_11 := Aside0.mk ((by rw [hg]; exact Nat.ne_of_lt (blk_lt BK9r.out)) : g9 ≠ g11); have BK3_10 := Aside0.mk (blk_below BK3r.out hb); have BK6_10 := Aside0.mk (blk_below BK6r.out hb); have BK9_10 := Aside0.mk (blk_below BK9r.out hb); have BK11_10 := Aside0.mk hbox; have GE11 := Aside0.mk ((by rw [hg]; exact HBr.out.size) : w.heap.size ≤ g11); have hza0 : w10.cell? ⟨g11, 0, none⟩ = some (.string (⟨#[]⟩ : ByteArray)) := (blk_cell BK11_10.out 0).trans rfl; have hfa0 := blk_frozen BK11_10.out 0; have hza1 : w10.cell? ⟨g11, 1, none⟩ = some (.string (⟨#[]⟩ : ByteArray)) := (blk_cell BK11_10.out 1).trans rfl; have hfa1 := blk_frozen BK11_10.out 1; have hza2 : w10.cell? ⟨g11, 2, none⟩ = some (.string (⟨#[]⟩ : ByteArray)) := (blk_cell BK11_10.out 2).trans rfl; have hfa2 := blk_frozen BK11_10.out 2; have hza3 : w10.cell? ⟨g11, 3, none⟩ = some (.bool false) := (blk_cell BK11_10.out 3).trans rfl; have hfa3 := blk_frozen BK11_10.out 3; have ne3b := NB3_11.out; have neb3 := NB3_11.out.symm; have ne6b := NB6_11.out; have neb6 := NB6_11.out.symm; have ne9b := NB9_11.out; have neb9 := NB9_11.out.symm; clear hb hbox hg)
         | (go_at_call 24; refine (refs_Apply.contains (some ad) c1 dn g11 P0 false _ (Kd.C_below HD.out (below_set (below_set (below_set (below_set HB10.out GE11.out) GE11.out) GE11.out) GE11.out)) ((blk_cell (blk_put (cs' := #[.string P0, .string P1, .string P2, .bool P3]) (blk_put (cs' := #[.string P0, .string P1, .string P2, .bool false]) (blk_put (cs' := #[.string P0, .string P1, .string (⟨#[]⟩ : ByteArray), .bool false]) (blk_put (cs' := #[.string P0, .string (⟨#[]⟩ : ByteArray), .string (⟨#[]⟩ : ByteArray), .bool false]) BK11_10.out 0 _ rfl) 1 _ rfl) 2 _ rfl) 3 _ rfl) 0).trans rfl) LD.out FD.out).mono ?_; rintro e w12 ⟨rfl, hb⟩; have HB12 := Aside0.mk (below_step (below_set (j := 3) (v := .bool P3) (below_set (j := 2) (v := .string P2) (below_set (j := 1) (v := .string P1) (below_set (j := 0) (v := .string P0) HB10.out GE11.out) GE11.out) GE11.out) GE11.out) hb); have HR12 := Aside0.mk (Kd.R_below (Kd.R_set (Kd.R_set (Kd.R_set (Kd.R_set HR10.out BK11_10.out (by decide) 0 _) (blk_put (cs' := #[.string P0, .string (⟨#[]⟩ : ByteArray), .string (⟨#[]⟩ : ByteArray), .bool false]) BK11_10.out 0 _ rfl) (by decide) 1 _) (blk_put (cs' := #[.string P0, .string P1, .string (⟨#[]⟩ : ByteArray), .bool false]) (blk_put (cs' := #[.string P0, .string (⟨#[]⟩ : ByteArray), .string (⟨#[]⟩ : ByteArray), .bool false]) BK11_10.out 0 _ rfl) 1 _ rfl) (by decide) 2 _) (blk_put (cs' := #[.string P0, .string P1, .string P2, .bool false]) (blk_put (cs' := #[.string P0, .string P1, .string (⟨#[]⟩ : ByteArray), .bool false]) (blk_put (cs' := #[.string P0, .string (⟨#[]⟩ : ByteArray), .string (⟨#[]⟩ : ByteArray), .bool false]) BK11_10.out 0 _ rfl) 1 _ rfl) 2 _ rfl) (by decide) 3 _) hb); have BK3_12 := Aside0.mk (blk_below (blk_far (blk_far (blk_far (blk_far BK3_10.out ne3b _) ne3b _) ne3b _) ne3b _) hb); have BK6_12 := Aside0.mk (blk_below (blk_far (blk_far (blk_far (blk_far BK6_10.out ne6b _) ne6b _) ne6b _) ne6b _) hb); have BK9_12 := Aside0.mk (blk_below (blk_far (blk_far (blk_far (blk_far BK9_10.out ne9b _) ne9b _) ne9b _) ne9b _) hb); have BK11_12 := Aside0.mk (blk_below (blk_put (cs' := #[.string P0, .string P1, .string P2, .bool P3]) (blk_put (cs' := #[.string P0, .string P1, .string P2, .bool false]) (blk_put (cs' := #[.string P0, .string P1, .string (⟨#[]⟩ : ByteArray), .bool false]) (blk_put (cs' := #[.string P0, .string (⟨#[]⟩ : ByteArray), .string (⟨#[]⟩ : ByteArray), .bool false]) BK11_10.out 0 _ rfl) 1 _ rfl) 2 _ rfl) 3 _ rfl) hb); have hz12a0 : w12.cell? ⟨g3, 0, none⟩ = some (.string a0_0) := (blk_cell BK3_12.out 0).trans rfl; have hz12a1 : w12.cell? ⟨g3, 1, none⟩ = some (.slice A0_1 l0_1.length c0_1) := (blk_cell BK3_12.out 1).trans rfl; have hf12a0 := blk_frozen BK3_12.out 0; have hf12a1 := blk_frozen BK3_12.out 1; have hz12b0 : w12.cell? ⟨g6, 0, none⟩ = some (.string (⟨#[]⟩ : ByteArray)) := (blk_cell BK6_12.out 0).trans rfl; have hz12b1 : w12.cell? ⟨g6, 1, none⟩ = some (.slice none 0 0) := (blk_cell BK6_12.out 1).trans rfl; have hf12b0 := blk_frozen BK6_12.out 0; have hf12b1 := blk_frozen BK6_12.out 1; have hz12c0 : w12.cell? ⟨g9, 0, none⟩ = some (.string oh) := (blk_cell BK9_12.out 0).trans rfl; have hz12c1 : w12.cell? ⟨g9, 1, none⟩ = some (.slice A9 ol.length c9) := (blk_cell BK9_12.out 1).trans rfl; have hf12c0 := blk_frozen BK9_12.out 0; have hf12c1 := blk_frozen BK9_12.out 1; have hz12d0 : w12.cell? ⟨g11, 0, none⟩ = some (.string P0) := (blk_cell BK11_12.out 0).trans rfl; have hz12d1 : w12.cell? ⟨g11, 1, none⟩ = some (.string P1) := (blk_cell BK11_12.out 1).trans rfl; have hz12d2 : w12.cell? ⟨g11, 2, none⟩ = some (.string P2) := (blk_cell BK11_12.out 2).trans rfl; have hz12d3 : w12.cell? ⟨g11, 3, none⟩ = some (.bool P3) := (blk_cell BK11_12.out 3).trans rfl; clear hb)
         | (go_at_call 26; refine (refs_whyW.calls F gq A2 c2 k a0_0 A0_1 c0_1 l0_1 P0 P1 P2 P3 0 _ (Kd.C_below HR.out HB12.out) HC.out (blk_below HQ.out HB12.out) (Kd.C_below HR2.out HB12.out) HC2.out WW.out).mono ?_; rintro e w13 ⟨rfl, hb⟩; have HB13 := Aside0.mk (below_step HB12.out hb); have HR13 := Aside0.mk (Kd.R_below HR12.out hb); have BK3_13 := Aside0.mk (blk_below BK3_12.out hb); have BK6_13 := Aside0.mk (blk_below BK6_12.out hb); have BK9_13 := Aside0.mk (blk_below BK9_12.out hb); have BK11_13 := Aside0.mk (blk_below BK11_12.out hb); have hz13a0 : w13.cell? ⟨g3, 0, none⟩ = some (.string a0_0) := (blk_cell BK3_13.out 0).trans rfl; have hz13a1 : w13.cell? ⟨g3, 1, none⟩ = some (.slice A0_1 l0_1.length c0_1) := (blk_cell BK3_13.out 1).trans rfl; have hf13a0 := blk_frozen BK3_13.out 0; have hf13a1 := blk_frozen BK3_13.out 1; have hz13b0 : w13.cell? ⟨g6, 0, none⟩ = some (.string (⟨#[]⟩ : ByteArray)) := (blk_cell BK6_13.out 0).trans rfl; have hz13b1 : w13.cell? ⟨g6, 1, none⟩ = some (.slice none 0 0) := (blk_cell BK6_13.out 1).trans rfl; have hf13b0 := blk_frozen BK6_13.out 0; have hf13b1 := blk_frozen BK6_13.out 1; have hz13c0 : w13.cell? ⟨g9, 0, none⟩ = some (.string oh) := (blk_cell BK9_13.out 0).trans rfl; have hz13c1 : w13.cell? ⟨g9, 1, none⟩ = some (.slice A9 ol.length c9) := (blk_cell BK9_13.out 1).trans rfl; have hf13c0 := blk_frozen BK9_13.out 0; have hf13c1 := blk_frozen BK9_13.out 1; have hz13d0 : w13.cell? ⟨g11, 0, none⟩ = some (.string P0) := (blk_cell BK11_13.out 0).trans rfl; have hz13d1 : w13.cell? ⟨g11, 1, none⟩ = some (.string P1) := (blk_cell BK11_13.out 1).trans rfl; have hz13d2 : w13.cell? ⟨g11, 2, none⟩ = some (.string P2) := (blk_cell BK11_13.out 2).trans rfl; have hz13d3 : w13.cell? ⟨g11, 3, none⟩ = some (.bool P3) := (blk_cell BK11_13.out 3).trans rfl; clear hb)
         | (go_at_call 27; refine (refs_set.calls k oh A9 c9 ol P0 P2 rh rl _ (Kd.R_reads' HR13.out).2.2 (Kd.R_reads' HR13.out).2.1 SS.out).mono ?_; rintro e w14 ⟨v14, rfl, hR14, hb⟩; obtain ⟨A14, c14, rfl⟩ := Kd.R_slice hR14; have HB14 := Aside0.mk (below_step HB13.out hb); have HR14 := Aside0.mk (Kd.R_lower hR14 HB13.out.size); have BK3_14 := Aside0.mk (blk_below BK3_13.out hb); have BK6_14 := Aside0.mk (blk_below BK6_13.out hb); have BK9_14 := Aside0.mk (blk_below BK9_13.out hb); have hz14c0 : w14.cell? ⟨g9, 0, none⟩ = some (.string oh) := (blk_cell BK9_14.out 0).trans rfl; have hz14c1 : w14.cell? ⟨g9, 1, none⟩ = some (.slice A9 ol.length c9) := (blk_cell BK9_14.out 1).trans rfl; have hf14c0 := blk_frozen BK9_14.out 0; have hf14c1 := blk_frozen BK9_14.out 1; clear hb hR14))
        go_roundw
        case rel => exact ⟨x + 1, rh, rl, A14, c14, rfl, by omega, by omega, ⟨by rw [HN.out]; exact HA2.out⟩, ⟨Kd.R_set (Kd.R_set HR14.out BK9_14.out (by decide) 0 _) (blk_put (cs' := #[.string rh, .slice A9 ol.length c9]) BK9_14.out 0 _ rfl) (by decide) 1 _⟩, ⟨blk_far (blk_far BK3_14.out ne39 _) ne39 _⟩, ⟨blk_far (blk_far BK6_14.out ne69 _) ne69 _⟩, ⟨blk_put (cs' := #[.string rh, .slice A14 rl.length c14]) (blk_put (cs' := #[.string rh, .slice A9 ol.length c9]) BK9_14.out 0 _ rfl) 1 _ rfl⟩, ⟨below_set (below_set HB14.out GE9.out) GE9.out⟩⟩
        case measure =>
         simp [intOf]
         omega
       ·
        rw [if_neg d5] at hA
        have hA := Option.some.inj hA
        simp only [Prod.mk.injEq] at hA
        obtain ⟨rfl, rfl, rfl⟩ := hA
        have d5b0 : (ec == 0) = false := beq_eq_false_iff_ne.mpr d5
        have d5b1 : (ec != 0) = true := bne_iff_ne.mpr d5
        clear d5
        go_wp2_with (first
         | ((with_reducible refine gate_dst (N := 11) rfl ?_); refine box_event ?hg (N := 11) ?hd (cs := #[.string (⟨#[]⟩ : ByteArray), .string (⟨#[]⟩ : ByteArray), .string (⟨#[]⟩ : ByteArray), .bool false]) (t := 34) ?hr ?_; (case hd => rfl); (case hg => rfl); (case hr => first | (go_simp; done) | (go_simp; rfl)); intro g11 hg w10 hbox hb; have HB10 := Aside0.mk (below_step HBr.out hb); have HR10 := Aside0.mk (Kd.R_below HRr.out hb); have NB3_11 := Aside0.mk ((by rw [hg]; exact Nat.ne_of_lt (blk_lt BK3r.out)) : g3 ≠ g11); have NB6_11 := Aside0.mk ((by rw [hg]; exact Nat.ne_of_lt (blk_lt BK6r.out)) : g6 ≠ g11); have NB9_11 := Aside0.mk ((by rw [hg]; exact Nat.ne_of_lt (blk_lt BK9r.out)) : g9 ≠ g11); have BK3_10 := Aside0.mk (blk_below BK3r.out hb); have BK6_10 := Aside0.mk (blk_below BK6r.out hb); have BK9_10 := Aside0.mk (blk_below BK9r.out hb); have BK11_10 := Aside0.mk hbox; have GE11 := Aside0.mk ((by rw [hg]; exact HBr.out.size) : w.heap.size ≤ g11); have hza0 : w10.cell? ⟨g11, 0, none⟩ = some (.string (⟨#[]⟩ : ByteArray)) := (blk_cell BK11_10.out 0).trans rfl; have hfa0 := blk_frozen BK11_10.out 0; have hza1 : w10.cell? ⟨g11, 1, none⟩ = some (.string (⟨#[]⟩ : ByteArray)) := (blk_cell BK11_10.out 1).trans rfl; have hfa1 := blk_frozen BK11_10.out 1; have hza2 : w10.cell? ⟨g11, 2, none⟩ = some (.string (⟨#[]⟩ : ByteArray)) := (blk_cell BK11_10.out 2).trans rfl; have hfa2 := blk_frozen BK11_10.out 2; have hza3 : w10.cell? ⟨g11, 3, none⟩ = some (.bool false) := (blk_cell BK11_10.out 3).trans rfl; have hfa3 := blk_frozen BK11_10.out 3; have ne3b := NB3_11.out; have neb3 := NB3_11.out.symm; have ne6b := NB6_11.out; have neb6 := NB6_11.out.symm; have ne9b := NB9_11.out; have neb9 := NB9_11.out.symm; clear hb hbox hg)
         | (go_at_call 24; refine (refs_Apply.contains (some ad) c1 dn g11 P0 false _ (Kd.C_below HD.out (below_set (below_set (below_set (below_set HB10.out GE11.out) GE11.out) GE11.out) GE11.out)) ((blk_cell (blk_put (cs' := #[.string P0, .string P1, .string P2, .bool P3]) (blk_put (cs' := #[.string P0, .string P1, .string P2, .bool false]) (blk_put (cs' := #[.string P0, .string P1, .string (⟨#[]⟩ : ByteArray), .bool false]) (blk_put (cs' := #[.string P0, .string (⟨#[]⟩ : ByteArray), .string (⟨#[]⟩ : ByteArray), .bool false]) BK11_10.out 0 _ rfl) 1 _ rfl) 2 _ rfl) 3 _ rfl) 0).trans rfl) LD.out FD.out).mono ?_; rintro e w12 ⟨rfl, hb⟩; have HB12 := Aside0.mk (below_step (below_set (j := 3) (v := .bool P3) (below_set (j := 2) (v := .string P2) (below_set (j := 1) (v := .string P1) (below_set (j := 0) (v := .string P0) HB10.out GE11.out) GE11.out) GE11.out) GE11.out) hb); have HR12 := Aside0.mk (Kd.R_below (Kd.R_set (Kd.R_set (Kd.R_set (Kd.R_set HR10.out BK11_10.out (by decide) 0 _) (blk_put (cs' := #[.string P0, .string (⟨#[]⟩ : ByteArray), .string (⟨#[]⟩ : ByteArray), .bool false]) BK11_10.out 0 _ rfl) (by decide) 1 _) (blk_put (cs' := #[.string P0, .string P1, .string (⟨#[]⟩ : ByteArray), .bool false]) (blk_put (cs' := #[.string P0, .string (⟨#[]⟩ : ByteArray), .string (⟨#[]⟩ : ByteArray), .bool false]) BK11_10.out 0 _ rfl) 1 _ rfl) (by decide) 2 _) (blk_put (cs' := #[.string P0, .string P1, .string P2, .bool false]) (blk_put (cs' := #[.string P0, .string P1, .string (⟨#[]⟩ : ByteArray), .bool false]) (blk_put (cs' := #[.string P0, .string (⟨#[]⟩ : ByteArray), .string (⟨#[]⟩ : ByteArray), .bool false]) BK11_10.out 0 _ rfl) 1 _ rfl) 2 _ rfl) (by decide) 3 _) hb); have BK3_12 := Aside0.mk (blk_below (blk_far (blk_far (blk_far (blk_far BK3_10.out ne3b _) ne3b _) ne3b _) ne3b _) hb); have BK6_12 := Aside0.mk (blk_below (blk_far (blk_far (blk_far (blk_far BK6_10.out ne6b _) ne6b _) ne6b _) ne6b _) hb); have BK9_12 := Aside0.mk (blk_below (blk_far (blk_far (blk_far (blk_far BK9_10.out ne9b _) ne9b _) ne9b _) ne9b _) hb); have BK11_12 := Aside0.mk (blk_below (blk_put (cs' := #[.string P0, .string P1, .string P2, .bool P3]) (blk_put (cs' := #[.string P0, .string P1, .string P2, .bool false]) (blk_put (cs' := #[.string P0, .string P1, .string (⟨#[]⟩ : ByteArray), .bool false]) (blk_put (cs' := #[.string P0, .string (⟨#[]⟩ : ByteArray), .string (⟨#[]⟩ : ByteArray), .bool false]) BK11_10.out 0 _ rfl) 1 _ rfl) 2 _ rfl) 3 _ rfl) hb); have hz12a0 : w12.cell? ⟨g3, 0, none⟩ = some (.string a0_0) := (blk_cell BK3_12.out 0).trans rfl; have hz12a1 : w12.cell? ⟨g3, 1, none⟩ = some (.slice A0_1 l0_1.length c0_1) := (blk_cell BK3_12.out 1).trans rfl; have hf12a0 := blk_frozen BK3_12.out 0; have hf12a1 := blk_frozen BK3_12.out 1; have hz12b0 : w12.cell? ⟨g6, 0, none⟩ = some (.string (⟨#[]⟩ : ByteArray)) := (blk_cell BK6_12.out 0).trans rfl; have hz12b1 : w12.cell? ⟨g6, 1, none⟩ = some (.slice none 0 0) := (blk_cell BK6_12.out 1).trans rfl; have hf12b0 := blk_frozen BK6_12.out 0; have hf12b1 := blk_frozen BK6_12.out 1; have hz12c0 : w12.cell? ⟨g9, 0, none⟩ = some (.string oh) := (blk_cell BK9_12.out 0).trans rfl; have hz12c1 : w12.cell? ⟨g9, 1, none⟩ = some (.slice A9 ol.length c9) := (blk_cell BK9_12.out 1).trans rfl; have hf12c0 := blk_frozen BK9_12.out 0; have hf12c1 := blk_frozen BK9_12.out 1; have hz12d0 : w12.cell? ⟨g11, 0, none⟩ = some (.string P0) := (blk_cell BK11_12.out 0).trans rfl; have hz12d1 : w12.cell? ⟨g11, 1, none⟩ = some (.string P1) := (blk_cell BK11_12.out 1).trans rfl; have hz12d2 : w12.cell? ⟨g11, 2, none⟩ = some (.string P2) := (blk_cell BK11_12.out 2).trans rfl; have hz12d3 : w12.cell? ⟨g11, 3, none⟩ = some (.bool P3) := (blk_cell BK11_12.out 3).trans rfl; clear hb)
         | (go_at_call 26; refine (refs_whyW.calls F gq A2 c2 k a0_0 A0_1 c0_1 l0_1 P0 P1 P2 P3 ec _ (Kd.C_below HR.out HB12.out) HC.out (blk_below HQ.out HB12.out) (Kd.C_below HR2.out HB12.out) HC2.out WW.out).mono ?_; rintro e w13 ⟨rfl, hb⟩; have HB13 := Aside0.mk (below_step HB12.out hb); have HR13 := Aside0.mk (Kd.R_below HR12.out hb); have BK3_13 := Aside0.mk (blk_below BK3_12.out hb); have BK6_13 := Aside0.mk (blk_below BK6_12.out hb); have BK9_13 := Aside0.mk (blk_below BK9_12.out hb); have BK11_13 := Aside0.mk (blk_below BK11_12.out hb); have hz13a0 : w13.cell? ⟨g3, 0, none⟩ = some (.string a0_0) := (blk_cell BK3_13.out 0).trans rfl; have hz13a1 : w13.cell? ⟨g3, 1, none⟩ = some (.slice A0_1 l0_1.length c0_1) := (blk_cell BK3_13.out 1).trans rfl; have hf13a0 := blk_frozen BK3_13.out 0; have hf13a1 := blk_frozen BK3_13.out 1; have hz13b0 : w13.cell? ⟨g6, 0, none⟩ = some (.string (⟨#[]⟩ : ByteArray)) := (blk_cell BK6_13.out 0).trans rfl; have hz13b1 : w13.cell? ⟨g6, 1, none⟩ = some (.slice none 0 0) := (blk_cell BK6_13.out 1).trans rfl; have hf13b0 := blk_frozen BK6_13.out 0; have hf13b1 := blk_frozen BK6_13.out 1; have hz13c0 : w13.cell? ⟨g9, 0, none⟩ = some (.string oh) := (blk_cell BK9_13.out 0).trans rfl; have hz13c1 : w13.cell? ⟨g9, 1, none⟩ = some (.slice A9 ol.length c9) := (blk_cell BK9_13.out 1).trans rfl; have hf13c0 := blk_frozen BK9_13.out 0; have hf13c1 := blk_frozen BK9_13.out 1; have hz13d0 : w13.cell? ⟨g11, 0, none⟩ = some (.string P0) := (blk_cell BK11_13.out 0).trans rfl; have hz13d1 : w13.cell? ⟨g11, 1, none⟩ = some (.string P1) := (blk_cell BK11_13.out 1).trans rfl; have hz13d2 : w13.cell? ⟨g11, 2, none⟩ = some (.string P2) := (blk_cell BK11_13.out 2).trans rfl; have hz13d3 : w13.cell? ⟨g11, 3, none⟩ = some (.bool P3) := (blk_cell BK11_13.out 3).trans rfl; clear hb))
        have Q1 : (w13.setCell ⟨g6, 0, none⟩ (.string a0_0)).heap[g6]? = some (.cells #[.string a0_0, .slice none 0 0] 24 (0, 0)) := blk_put BK6_13.out 0 _ rfl
        refine bodyPost_ret (results_ct rfl _ _ g6 24 #[.string a0_0, .slice A0_1 l0_1.length c0_1] (0, 0) _ rfl (blk_put Q1 1 _ rfl) Try.underlying24 rfl (by kernel_rfl)) rfl ?_
        have HBf := below_set (j := 1) (v := .slice A0_1 l0_1.length c0_1) (below_set (j := 0) (v := .string a0_0) HB13.out GE6.out) GE6.out
        exact ⟨_, rfl, Kd.V_mono (Kd.V_below HS.out HBf) (fun _ hk => .inl hk), HBf⟩
     ·
      have hx : x = (l1.length : Int) := by omega
      have hA := HA.out
      rw [hx, Int.toNat_natCast, List.drop_length] at hA
      simp only [refs_ApplyW.go] at hA
      clear HA
      have hzra0 : wr.cell? ⟨g3, 0, none⟩ = some (.string a0_0) := (blk_cell BK3r.out 0).trans rfl
      have hzra1 : wr.cell? ⟨g3, 1, none⟩ = some (.slice A0_1 l0_1.length c0_1) := (blk_cell BK3r.out 1).trans rfl
      have hfra0 := blk_frozen BK3r.out 0
      have hfra1 := blk_frozen BK3r.out 1
      have hzrb0 : wr.cell? ⟨g6, 0, none⟩ = some (.string (⟨#[]⟩ : ByteArray)) := (blk_cell BK6r.out 0).trans rfl
      have hzrb1 : wr.cell? ⟨g6, 1, none⟩ = some (.slice none 0 0) := (blk_cell BK6r.out 1).trans rfl
      have hfrb0 := blk_frozen BK6r.out 0
      have hfrb1 := blk_frozen BK6r.out 1
      have hzrc0 : wr.cell? ⟨g9, 0, none⟩ = some (.string oh) := (blk_cell BK9r.out 0).trans rfl
      have hzrc1 : wr.cell? ⟨g9, 1, none⟩ = some (.slice A9 ol.length c9) := (blk_cell BK9r.out 1).trans rfl
      have hfrc0 := blk_frozen BK9r.out 0
      have hfrc1 := blk_frozen BK9r.out 1
      by_cases d6 : (ol.length : Int) > 256
      · rw [if_pos d6] at hA
        have hA := Option.some.inj hA
        simp only [Prod.mk.injEq] at hA
        obtain ⟨rfl, rfl, rfl⟩ := hA
        have d6b0 : decide (256 < (ol.length : Int)) = true := decide_eq_true d6
        have d6b1 : decide (256 < ol.length) = true := decide_eq_true (by omega)
        clear d6 hx
        go_wp2
        have Q1 : (wr.setCell ⟨g6, 0, none⟩ (.string a0_0)).heap[g6]? = some (.cells #[.string a0_0, .slice none 0 0] 24 (0, 0)) := blk_put BK6r.out 0 _ rfl
        refine bodyPost_ret (results_ct rfl _ _ g6 24 #[.string a0_0, .slice A0_1 l0_1.length c0_1] (0, 0) _ rfl (blk_put Q1 1 _ rfl) Try.underlying24 rfl (by kernel_rfl)) rfl ?_
        have HBf := below_set (j := 1) (v := .slice A0_1 l0_1.length c0_1) (below_set (j := 0) (v := .string a0_0) HBr.out GE6.out) GE6.out
        exact ⟨_, rfl, Kd.V_mono (Kd.V_below HS.out HBf) (fun _ hk => .inl hk), HBf⟩
      · rw [if_neg d6] at hA
        have hA := Option.some.inj hA
        simp only [Prod.mk.injEq] at hA
        obtain ⟨rfl, rfl, rfl⟩ := hA
        have d6b0 : decide (256 < (ol.length : Int)) = false := decide_eq_false d6
        have d6b1 : decide (256 < ol.length) = false := decide_eq_false (by omega)
        clear d6 hx
        go_wp2
        have Q1 : (wr.setCell ⟨g6, 0, none⟩ (.string oh)).heap[g6]? = some (.cells #[.string oh, .slice none 0 0] 24 (0, 0)) := blk_put BK6r.out 0 _ rfl
        refine bodyPost_ret (results_ct rfl _ _ g6 24 #[.string oh, .slice A9 ol.length c9] (0, 0) _ rfl (blk_put Q1 1 _ rfl) Try.underlying24 rfl (by kernel_rfl)) rfl ?_
        have HBf := below_set (j := 1) (v := .slice A9 ol.length c9) (below_set (j := 0) (v := .string oh) HBr.out GE6.out) GE6.out
        exact ⟨_, rfl, Kd.V_mono (Kd.R_V (Kd.R_mono (Kd.R_bound (Kd.R_set (Kd.R_set HRr.out BK6r.out (by decide) 0 _) Q1 (by decide) 1 _)) (fun k_ hk => hk))) (fun _ hk => .inr hk.2.1), HBf⟩
   · rw [if_neg d3] at h
     cases h
  ·
   rw [if_neg d2] at h
   have h := Option.some.inj h
   simp only [Prod.mk.injEq] at h
   obtain ⟨rfl, rfl, rfl⟩ := h
   have d2b0 : (ec == 0) = false := beq_eq_false_iff_ne.mpr d2
   have d2b1 : (ec != 0) = true := bne_iff_ne.mpr d2
   clear d2
   go_enter Try.func8, Try.ntmps8
   go_wp2_with (first
    | ((with_reducible refine gate_dst (N := 3) rfl ?_); refine box_event ?hg (N := 3) ?hd (cs := #[.string a0_0, .slice A0_1 l0_1.length c0_1]) (t := 24) ?hr ?_; (case hd => rfl); (case hg => rfl); (case hr => first | (go_simp; done) | (go_simp; rfl)); intro g3 hg w4 hbox hb; have HB4 := Aside0.mk (below_step HB.out hb); have BK3 := Aside0.mk hbox; have GE3 := Aside0.mk ((by rw [hg]; exact Nat.le_refl _) : w.heap.size ≤ g3); clear hb hbox hg)
    | ((with_reducible refine gate_dst (N := 6) rfl ?_); refine box_event ?hg (N := 6) ?hd (cs := #[.string (⟨#[]⟩ : ByteArray), .slice none 0 0]) (t := 24) ?hr ?_; (case hd => rfl); (case hg => rfl); (case hr => first | (go_simp; done) | (go_simp; rfl)); intro g6 hg w5 hbox hb; have HB5 := Aside0.mk (below_step HB4.out hb); have NB36 := Aside0.mk ((by rw [hg]; exact Nat.ne_of_lt (blk_lt BK3.out)) : g3 ≠ g6); have BK3_5 := Aside0.mk (blk_below BK3.out hb); have BK6_5 := Aside0.mk hbox; have GE6 := Aside0.mk ((by rw [hg]; exact HB4.out.size) : w.heap.size ≤ g6); have hz50 : w5.cell? ⟨g3, 0, none⟩ = some (.string a0_0) := (blk_cell BK3_5.out 0).trans rfl; have hz51 : w5.cell? ⟨g3, 1, none⟩ = some (.slice A0_1 l0_1.length c0_1) := (blk_cell BK3_5.out 1).trans rfl; have hz52 : w5.cell? ⟨g6, 0, none⟩ = some (.string (⟨#[]⟩ : ByteArray)) := (blk_cell BK6_5.out 0).trans rfl; have hz53 : w5.cell? ⟨g6, 1, none⟩ = some (.slice none 0 0) := (blk_cell BK6_5.out 1).trans rfl; have hf52 := blk_frozen BK6_5.out 0; have hf53 := blk_frozen BK6_5.out 1; have ne36 := NB36.out; have ne63 := NB36.out.symm; clear hb hbox hg)
    | (go_at_call 18; refine (refs_Check.calls k a0_0 A0_1 c0_1 l0_1 ec _ (Kd.C_below HR.out HB5.out) HC.out PC.out).mono ?_; rintro e w6 ⟨rfl, hb⟩; have HB6 := Aside0.mk (below_step HB5.out hb); have BK3_6 := Aside0.mk (blk_below BK3_5.out hb); have BK6_6 := Aside0.mk (blk_below BK6_5.out hb); have hz6a0 : w6.cell? ⟨g3, 0, none⟩ = some (.string a0_0) := (blk_cell BK3_6.out 0).trans rfl; have hz6a1 : w6.cell? ⟨g3, 1, none⟩ = some (.slice A0_1 l0_1.length c0_1) := (blk_cell BK3_6.out 1).trans rfl; have hf6a0 := blk_frozen BK3_6.out 0; have hf6a1 := blk_frozen BK3_6.out 1; have hz6b0 : w6.cell? ⟨g6, 0, none⟩ = some (.string (⟨#[]⟩ : ByteArray)) := (blk_cell BK6_6.out 0).trans rfl; have hz6b1 : w6.cell? ⟨g6, 1, none⟩ = some (.slice none 0 0) := (blk_cell BK6_6.out 1).trans rfl; have hf6b0 := blk_frozen BK6_6.out 0; have hf6b1 := blk_frozen BK6_6.out 1; clear hb))
   have Q1 : (w6.setCell ⟨g6, 0, none⟩ (.string a0_0)).heap[g6]? = some (.cells #[.string a0_0, .slice none 0 0] 24 (0, 0)) := blk_put BK6_6.out 0 _ rfl
   refine bodyPost_ret (results_ct rfl _ _ g6 24 #[.string a0_0, .slice A0_1 l0_1.length c0_1] (0, 0) _ rfl (blk_put Q1 1 _ rfl) Try.underlying24 rfl (by kernel_rfl)) rfl ?_
   have HBf := below_set (j := 1) (v := .slice A0_1 l0_1.length c0_1) (below_set (j := 0) (v := .string a0_0) HB6.out GE6.out) GE6.out
   exact ⟨_, rfl, Kd.V_mono (Kd.V_below HS.out HBf) (fun _ hk => .inl hk), HBf⟩


end Go.Proofs.Ytgepbdkbleapaaa.M
