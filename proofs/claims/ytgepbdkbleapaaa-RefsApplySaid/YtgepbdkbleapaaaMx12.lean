/- The program's functions as plain functions, and that each call comes to what these tell; written by a program of this session, some contracts by hand. Conditions: none. -/
import Derived.Test.YtgepbdkbleapaaaMx0
namespace Go.Proofs.Ytgepbdkbleapaaa.M
open Go.RowKit Go.Proofs.YtgepbdkbleapaaaW.PrintWords Go.Proofs.YtgepbdkbleapaaaW.PrintLast Go.Proofs.YtgepbdkbleapaaaW.PrintMore
attribute [local go_sem] max2_int min2_int max_two min_two max_three min_three max_four min_four   -- for this text's walks alone
set_option linter.unusedVariables false
set_option linter.unusedSimpArgs false

/-! ### pollardref13_set: function 29 -/
mutual
def pollardref13_set.l0 : Nat → ByteArray → ByteArray → List (S61) → Bool → Int → ByteArray → List (S61) → Option (ByteArray × (List (S61)))
 | 0, _, _, _, _, _, _, _ => none
 | k + 1, x1, x2, x7, x8, x9, x158000, x158001 => if x9 < (x158001.length : Int) then (if 0 ≤ x9 then (if x8 = true then (pollardref13_set.j1 k x1 x2 x7 x8 x9 false x158000 x158001 ((rd_T61 x158001 x9).f0) ((rd_T61 x158001 x9).f1)) else (pollardref13_set.j1 k x1 x2 x7 x8 x9 (!(Op.bytesLess (((rd_T61 x158001 x9).f0).toList) x1.toList)) x158000 x158001 ((rd_T61 x158001 x9).f0) ((rd_T61 x158001 x9).f1))) else (none)) else (if x8 = true then (some (x158000, x7)) else (if x7.length < 4398046511104 then (some (x158000, (x7 ++ [(⟨x1, x2⟩ : S61)]))) else (none)))
def pollardref13_set.j1 : Nat → ByteArray → ByteArray → List (S61) → Bool → Int → Bool → ByteArray → List (S61) → ByteArray → ByteArray → Option (ByteArray × (List (S61)))
 | 0, _, _, _, _, _, _, _, _, _, _ => none
 | k + 1, x1, x2, x7, x8, x9, x33, x158000, x158001, x167000, x167001 => if x33 = true then (if x7.length < 4398046511104 then ((some (x7 ++ [(⟨x1, x2⟩ : S61)] : List (S61))).bind fun y167 => (if x167000.toList = x1.toList then (pollardref13_set.l0 k x1 x2 y167 true (wrap64 (x9 + 1)) x158000 x158001) else (if y167.length < 4398046511104 then (pollardref13_set.l0 k x1 x2 (y167 ++ [(⟨x167000, x167001⟩ : S61)]) true (wrap64 (x9 + 1)) x158000 x158001) else (none)))) else (none)) else (if x167000.toList = x1.toList then (pollardref13_set.l0 k x1 x2 x7 x8 (wrap64 (x9 + 1)) x158000 x158001) else (if x7.length < 4398046511104 then (pollardref13_set.l0 k x1 x2 (x7 ++ [(⟨x167000, x167001⟩ : S61)]) x8 (wrap64 (x9 + 1)) x158000 x158001) else (none)))
end
def pollardref13_set.f (k : Nat) (a0_0 : ByteArray) (l0_1 : List (S61)) (a1 : ByteArray) (a2 : ByteArray) : Option (ByteArray × (List (S61))) := pollardref13_set.l0 k a1 a2 (([] : List (S61))) (a2.toList == ([] : List UInt8)) 0 a0_0 l0_1
theorem pollardref13_set.mono_l : ∀ k, (∀ y0 y1 y2 y3 y4 y5 y6, LeO (pollardref13_set.l0 k y0 y1 y2 y3 y4 y5 y6) (pollardref13_set.l0 (k + 1) y0 y1 y2 y3 y4 y5 y6)) ∧ (∀ y0 y1 y2 y3 y4 y5 y6 y7 y8 y9, LeO (pollardref13_set.j1 k y0 y1 y2 y3 y4 y5 y6 y7 y8 y9) (pollardref13_set.j1 (k + 1) y0 y1 y2 y3 y4 y5 y6 y7 y8 y9))
 | 0 => ⟨fun _ _ _ _ _ _ _ r h => by simp [pollardref13_set.l0] at h, fun _ _ _ _ _ _ _ _ _ _ r h => by simp [pollardref13_set.j1] at h⟩
 | k + 1 => by
  obtain ⟨ih0, ih1⟩ := pollardref13_set.mono_l k
  refine ⟨?_, ?_⟩
  all_goals (intros; first | unfold pollardref13_set.l0 | unfold pollardref13_set.j1)
  all_goals repeat' with_reducible first | exact ih0 _ _ _ _ _ _ _ | exact ih1 _ _ _ _ _ _ _ _ _ _ | exact LeO.refl _ | exact LeO.none _ | refine LeO.ite ?_ ?_ | refine LeO.bind ?_ (fun _ => ?_)
theorem pollardref13_set.mono : ∀ a0 a1 a2 a3 k, LeO (pollardref13_set.f k a0 a1 a2 a3) (pollardref13_set.f (k + 1) a0 a1 a2 a3) := by
 intro a0 a1 a2 a3 k
 obtain ⟨ih0, ih1⟩ := pollardref13_set.mono_l k
 unfold pollardref13_set.f
 repeat' with_reducible first | exact ih0 _ _ _ _ _ _ _ | exact ih1 _ _ _ _ _ _ _ _ _ _ | exact LeO.refl _ | exact LeO.none _ | refine LeO.ite ?_ ?_ | refine LeO.bind ?_ (fun _ => ?_)
set_option maxHeartbeats 8000000 in
set_option maxRecDepth 100000 in
theorem pollardref13_set.calls (k : Nat) (a0_0 : ByteArray) (A0_1 : Option Addr) (c0_1 : Nat) (l0_1 : List (S61)) (a1 : ByteArray) (a2 : ByteArray) (r1 : ByteArray) (r2 : List (S61)) (w : World) (hr0_1 : Kd.C k61 w A0_1 l0_1.length l0_1) (hc0_1 : l0_1.length ≤ c0_1) (h : pollardref13_set.f k a0_0 l0_1 a1 a2 = some (r1, r2)) :
 Calls Try.prog 29 #[.agg #[.string a0_0, .slice A0_1 l0_1.length c0_1], .string a1, .string a2] w fun e w' => ∃ v1_ : Value, e = .returned (.agg #[.string r1, v1_]) ∧ Kd.R k61 61 w' w.heap.size (fun _ => True) v1_ r2 ∧ Below w.heap.size w w' := by
 have hu30 := Try.underlying30
 have hu61 := Try.underlying61
 have HR0_1 := Aside0.mk hr0_1
 have HC0_1 := Aside0.mk hc0_1
 clear hr0_1 hc0_1
 have HB := Aside0.mk (Below.refl w.heap.size w)
 have H : (pollardref13_set.l0 k a1 a2 (([] : List (S61))) (a2.toList == ([] : List UInt8)) 0 a0_0 l0_1) = some (r1, r2) := h
 clear h
 obtain ⟨y159, hy159⟩ : ∃ y_ : List (S61), y_ = (([] : List (S61))) := ⟨_, rfl⟩
 replace H : (pollardref13_set.l0 k a1 a2 y159 (a2.toList == ([] : List UInt8)) 0 a0_0 l0_1) = some (r1, r2) := by first | (rw [hy159]; with_reducible exact H) | (have H2_ := (Option.bind_some _ _).symm.trans H; rw [hy159]; with_reducible exact H2_) | (have H2_ := (Option.bind_some _ _).symm.trans H; with_reducible exact H2_) | with_reducible exact H | (rw [hy159]; exact H) | exact H
 have Ny159 := Aside0.mk hy159
 clear hy159
 have H' := Aside0.mk H
 clear H
 go_enter Try.func29, Try.ntmps29
 go_wp2_with (first | ((with_reducible refine gate_dst (N := 3) rfl ?_); refine box_event ?hg (N := 3) ?hd (cs := #[.string a0_0, .slice A0_1 l0_1.length c0_1]) (t := 30) ?hr ?_; (case hd => rfl); (case hg => rfl); (case hr => first | (go_simp; done) | (go_simp; rfl)); intro gb157 hg w4 hbox hb; have n0_ := Aside0.mk (below_step bz_ hb); have n1_ := Aside0.mk (hbox); have n2_ := Aside0.mk ((by rw [hg]; exact (below_size bz_) : w.heap.size ≤ gb157)); have n3_ := Aside0.mk ((by rw [hg]; exact (below_size bz_) : w.heap.size ≤ gb157)); clear HB; have HB := n0_; have BK157 := n1_; have GW157 := n2_; have GE157 := n3_; clear n0_ n1_ n2_ n3_; clear hb hbox hg) | ((with_reducible refine gate_dst (N := 6) rfl ?_); refine box_event ?hg (N := 6) ?hd (cs := #[.string (⟨#[]⟩ : ByteArray), .slice none 0 0]) (t := 30) ?hr ?_; (case hd => rfl); (case hg => rfl); (case hr => first | (go_simp; done) | (go_simp; rfl)); intro gb158 hg w5 hbox hb; have n0_ := Aside0.mk (blk_below (g := gb157) (o := .cells #[.string a0_0, .slice A0_1 l0_1.length c0_1] 30 (0, 0)) (kz_ BK157.out) hb); have n1_ := Aside0.mk (below_step (bs1_ GE157.out) hb); have n2_ := Aside0.mk (hbox); have n3_ := Aside0.mk ((by rw [hg]; exact (below_size (bs1_ GE157.out)) : w.heap.size ≤ gb158)); have n4_ := Aside0.mk ((by rw [hg]; exact (below_size (bs1_ GE157.out)) : w.heap.size ≤ gb158)); have n5_ := Aside0.mk ((by rw [hg]; exact Nat.ne_of_lt (blk_lt (g := gb157) (o := .cells #[.string a0_0, .slice A0_1 l0_1.length c0_1] 30 (0, 0)) (kz_ BK157.out)) : gb157 ≠ gb158)); have n6_ := Aside0.mk ((by rw [hg]; exact Nat.ne_of_gt (blk_lt (g := gb157) (o := .cells #[.string a0_0, .slice A0_1 l0_1.length c0_1] 30 (0, 0)) (kz_ BK157.out)) : gb158 ≠ gb157)); clear BK157; clear HB; have BK157 := n0_; have HB := n1_; have BK158 := n2_; have GW158 := n3_; have GE158 := n4_; have NB157_158 := n5_; have NB158_157 := n6_; clear n0_ n1_ n2_ n3_ n4_ n5_ n6_; clear hb hbox hg) | ((with_reducible refine gate_dst (N := 11) rfl ?_); refine Kd.R_lit k61 _ 61 ?hg (N := 11) ?hd (xs := ([] : List (S61))) (inner := []) (ok := fun _ => True) (okp := fun _ => True) ?hr ?hp (fun _ hk => hk) trivial (Below.refl _ _) (Nat.le_refl _) (by simp) ?_; (case hd => rfl); (case hg => rfl); (case hr => first | (go_simp; done) | (go_simp; rfl)); (case hp => exact (Reps.none _ _)); intro v160 w6 ho7 hb hg_ hnew_; clear hg_ hnew_; (first | rw [← Ny159.out] at ho7 | (simp only [Int.reduceToNat] at ho7; rw [← Ny159.out] at ho7)); have n0_ := Aside0.mk (Kd.R_lower ho7 (below_size (bs2_ GE157.out GE158.out))); have n1_ := Aside0.mk (blk_below (g := gb157) (o := .cells #[.string a0_0, .slice A0_1 l0_1.length c0_1] 30 (0, 0)) (kz_ BK157.out) hb); have n2_ := Aside0.mk (blk_below (g := gb158) (o := .cells #[.string (⟨#[]⟩ : ByteArray), .slice none 0 0] 30 (0, 0)) (kz_ BK158.out) hb); have n3_ := Aside0.mk (below_step (bs2_ GE157.out GE158.out) hb); clear BK157; clear BK158; clear HB; have HO161 := n0_; have BK157 := n1_; have BK158 := n2_; have HB := n3_; clear n0_ n1_ n2_ n3_; clear hb ho7))
 go_loopg [7, 8, 9] k (fun kq v7 v8 v9 w' => ∃ (x7_1 : List (S61)) (x8_1 : Bool) (x9_1 : Int), v8 = .bool x8_1 ∧ v9 = .int .i64 x9_1 ∧ Aside0 (pollardref13_set.l0 kq a1 a2 x7_1 x8_1 x9_1 a0_0 l0_1 = some (r1, r2)) ∧ Aside0 (kq ≤ k) ∧ Aside0 (Kd.R k61 61 w' w.heap.size (fun _ => True) v7 x7_1) ∧ Aside0 (w'.heap[gb157]? = some (.cells #[.string a0_0, (.slice A0_1 l0_1.length c0_1)] 30 (0, 0))) ∧ Aside0 (w'.heap[gb158]? = some (.cells #[.string (⟨#[]⟩ : ByteArray), (.slice none 0 0)] 30 (0, 0))) ∧ Aside0 (Below w.heap.size w w'))
 case atStart => exact ⟨(y159), ((a2.toList == ([] : List UInt8))), (0), ez_, ez_, H', ⟨Nat.le_refl _⟩, ⟨rz_ HO161.out⟩, ⟨kz_ BK157.out⟩, ⟨kz_ BK158.out⟩, ⟨bs2_ GE157.out GE158.out⟩⟩
 case round =>
  clear H'
  try clear c2
  try clear p2
  obtain ⟨x7_1, x8_1, x9_1, rfl, rfl, HA, HK1, HO_7, BK157, BK158, HB⟩ := hrel
  cases gk with
  | zero => exact absurd HA.out (by simp [pollardref13_set.l0])
  | succ k1 =>
   have H := HA.out
   clear HA
   simp only [pollardref13_set.l0] at H
   by_cases c8 : x9_1 < (l0_1.length : Int)
   ·
    rw [if_pos c8] at H
    have c8b0 : decide (x9_1 < (l0_1.length : Int)) = true := decide_eq_true c8
    clear c8
    by_cases c9 : 0 ≤ x9_1
    ·
     rw [if_pos c9] at H
     have c9b0 : decide (0 ≤ x9_1) = true := decide_eq_true c9
     clear c9
     have HC10 := Aside0.mk H
     clear H
     have hnb11 := NB157_158.out
     have hnc11 := NB158_157.out
     have hcz12_0 : wr.cell? ⟨gb157, 0, none⟩ = some (.string a0_0) := (blk_cell BK157.out 0).trans rfl
     have hcz12_1 : wr.cell? ⟨gb157, 1, none⟩ = some (.slice A0_1 l0_1.length c0_1) := (blk_cell BK157.out 1).trans rfl
     have hfz12_0 := blk_frozen BK157.out 0
     have hfz12_1 := blk_frozen BK157.out 1
     have p165 : 0 ≤ (x9_1 : Int) := of_decide_eq_true az_
     have q165 : x9_1 < (l0_1.length : Int) := of_decide_eq_true az_
     obtain ⟨ad165, e165, hx165_0, hx165_1⟩ := at_T61 HR0_1.out x9_1 p165 q165
     cases e165
     replace hx165_0 := (HB.out.cell (World.block_lt_of_cell? w _ hx165_0)).trans hx165_0
     replace hx165_1 := (HB.out.cell (World.block_lt_of_cell? w _ hx165_1)).trans hx165_1
     replace p165 := eq_true p165
     replace q165 := eq_true q165
     go_upto_region 6 with (first | ((with_reducible refine gate_dst (N := 10) rfl ?_); refine box_event ?hg (N := 10) ?hd (cs := #[.string (⟨#[]⟩ : ByteArray), .string (⟨#[]⟩ : ByteArray)]) (t := 61) ?hr ?_; (case hd => rfl); (case hg => rfl); (case hr => first | (go_simp; done) | (go_simp; rfl)); intro gb166 hg w13 hbox hb; have n0_ := Aside0.mk (Kd.R_below (Kd.R_elderB (rz_ HO_7.out) gb166 (Nat.le_of_eq hg.symm)) hb); have n1_ := Aside0.mk (blk_below (g := gb157) (o := .cells #[.string a0_0, .slice (some ad165) l0_1.length c0_1] 30 (0, 0)) (kz_ BK157.out) hb); have n2_ := Aside0.mk (blk_below (g := gb158) (o := .cells #[.string (⟨#[]⟩ : ByteArray), .slice none 0 0] 30 (0, 0)) (kz_ BK158.out) hb); have n3_ := Aside0.mk (below_step (bs2_ GE157.out GE158.out) hb); have n4_ := Aside0.mk (hbox); have n5_ := Aside0.mk ((by rw [hg]; exact (below_size (bs2_ GE157.out GE158.out)) : w.heap.size ≤ gb166)); have n6_ := Aside0.mk ((by rw [hg]; exact (below_size (bs2_ GE157.out GE158.out)) : w.heap.size ≤ gb166)); have n7_ := Aside0.mk ((by rw [hg]; exact Nat.ne_of_lt (blk_lt (g := gb157) (o := .cells #[.string a0_0, .slice (some ad165) l0_1.length c0_1] 30 (0, 0)) (kz_ BK157.out)) : gb157 ≠ gb166)); have n8_ := Aside0.mk ((by rw [hg]; exact Nat.ne_of_gt (blk_lt (g := gb157) (o := .cells #[.string a0_0, .slice (some ad165) l0_1.length c0_1] 30 (0, 0)) (kz_ BK157.out)) : gb166 ≠ gb157)); have n9_ := Aside0.mk ((by rw [hg]; exact Nat.ne_of_lt (blk_lt (g := gb158) (o := .cells #[.string (⟨#[]⟩ : ByteArray), .slice none 0 0] 30 (0, 0)) (kz_ BK158.out)) : gb158 ≠ gb166)); have n10_ := Aside0.mk ((by rw [hg]; exact Nat.ne_of_gt (blk_lt (g := gb158) (o := .cells #[.string (⟨#[]⟩ : ByteArray), .slice none 0 0] 30 (0, 0)) (kz_ BK158.out)) : gb166 ≠ gb158)); clear HO_7; clear BK157; clear BK158; clear HB; have HO_7 := n0_; have BK157 := n1_; have BK158 := n2_; have HB := n3_; have BK166 := n4_; have GW166 := n5_; have GE166 := n6_; have NB157_166 := n7_; have NB166_157 := n8_; have NB158_166 := n9_; have NB166_158 := n10_; clear n0_ n1_ n2_ n3_ n4_ n5_ n6_ n7_ n8_ n9_ n10_; clear hb hbox hg; have hnb14 := NB166_157.out; have hnc14 := NB157_166.out; have hnb15 := NB166_158.out; have hnc15 := NB158_166.out; have hcz16_0 : w13.cell? ⟨gb166, 0, none⟩ = some (.string (⟨#[]⟩ : ByteArray)) := (blk_cell BK166.out 0).trans rfl; have hcz16_1 : w13.cell? ⟨gb166, 1, none⟩ = some (.string (⟨#[]⟩ : ByteArray)) := (blk_cell BK166.out 1).trans rfl; have hfz16_0 := blk_frozen BK166.out 0; have hfz16_1 := blk_frozen BK166.out 1))
     (try simp only [Act.put, List.setIfInBounds_toArray, List.set_cons_zero, List.set_cons_succ])
     go_cut [33] (fun v33 wc => ∃ (kq : Nat) (x33_9 : Bool), v33 = .bool x33_9 ∧ Aside0 (pollardref13_set.j1 kq a1 a2 x7_1 x8_1 x9_1 x33_9 a0_0 l0_1 ((rd_T61 l0_1 x9_1).f0) ((rd_T61 l0_1 x9_1).f1) = some (r1, r2)) ∧ Aside0 (kq ≤ k1) ∧ Aside0 (Kd.R k61 61 wc w.heap.size (fun k_ => k_ ≠ gb166) u7 x7_1) ∧ Aside0 (wc.heap[gb157]? = some (.cells #[.string a0_0, (.slice (some ad165) l0_1.length c0_1)] 30 (0, 0))) ∧ Aside0 (wc.heap[gb158]? = some (.cells #[.string (⟨#[]⟩ : ByteArray), (.slice none 0 0)] 30 (0, 0))) ∧ Aside0 (wc.heap[gb166]? = some (.cells #[.string ((rd_T61 l0_1 x9_1).f0), .string ((rd_T61 l0_1 x9_1).f1)] 61 (0, 0))) ∧ Aside0 (Below w.heap.size w wc))
     case first =>
      have H := HC10.out
      clear HC10
      by_cases c17 : x8_1 = true
      · subst c17
        have H1 := H
        rw [if_pos rfl] at H1
        clear H
        have H := H1
        clear H1
        have H' := Aside0.mk H
        clear H
        go_wp2
        go_meet
        case rel => exact ⟨_, (false), ez_, H', ⟨by have := HK1.out; first | omega | exact Nat.le_refl _⟩, ⟨rz_ (Kd.R_mono (Kd.R_far (p := ⟨gb166, 1, none⟩) (Kd.R_far (p := ⟨gb166, 0, none⟩) (Kd.R_mono HO_7.out (fun k_ hk => (⟨hk, hk.2⟩ : _ ∧ k_ ≠ gb166))) (fun _ hk => hk.2) (.string ((rd_T61 l0_1 x9_1).f0))) (fun _ hk => hk.2) (.string ((rd_T61 l0_1 x9_1).f1))) (fun _ hk => hk.1.2))⟩, ⟨by (with_reducible repeat (first | refine blk_drewN ?_ _ | refine blk_drew ?_ | refine blk_alloc ?_ _)); refine blk_far ?_ NB157_166.out _; (with_reducible repeat (first | refine blk_drewN ?_ _ | refine blk_drew ?_ | refine blk_alloc ?_ _)); refine blk_far ?_ NB157_166.out _; (with_reducible repeat (first | refine blk_drewN ?_ _ | refine blk_drew ?_ | refine blk_alloc ?_ _)); exact BK157.out⟩, ⟨by (with_reducible repeat (first | refine blk_drewN ?_ _ | refine blk_drew ?_ | refine blk_alloc ?_ _)); refine blk_far ?_ NB158_166.out _; (with_reducible repeat (first | refine blk_drewN ?_ _ | refine blk_drew ?_ | refine blk_alloc ?_ _)); refine blk_far ?_ NB158_166.out _; (with_reducible repeat (first | refine blk_drewN ?_ _ | refine blk_drew ?_ | refine blk_alloc ?_ _)); exact BK158.out⟩, ⟨by (with_reducible repeat (first | refine blk_drewN ?_ _ | refine blk_drew ?_ | refine blk_alloc ?_ _)); refine blk_put (cs := #[.string ((rd_T61 l0_1 x9_1).f0), .string (⟨#[]⟩ : ByteArray)]) ?_ 1 _ rfl; (with_reducible repeat (first | refine blk_drewN ?_ _ | refine blk_drew ?_ | refine blk_alloc ?_ _)); refine blk_put (cs := #[.string (⟨#[]⟩ : ByteArray), .string (⟨#[]⟩ : ByteArray)]) ?_ 0 _ rfl; (with_reducible repeat (first | refine blk_drewN ?_ _ | refine blk_drew ?_ | refine blk_alloc ?_ _)); exact BK166.out⟩, ⟨bs3_ GE157.out GE158.out GE166.out⟩⟩
      ·
       replace c17 := Bool.eq_false_iff.mpr c17
       subst c17
       have H1 := H
       rw [if_neg (show ¬ (false = true) by decide)] at H1
       clear H
       have H := H1
       clear H1
       have H' := Aside0.mk H
       clear H
       have hnb18 := NB166_157.out
       have hnc18 := NB157_166.out
       have hnb19 := NB166_158.out
       have hnc19 := NB158_166.out
       have hcz20_0 : w13.cell? ⟨gb166, 0, none⟩ = some (.string (⟨#[]⟩ : ByteArray)) := (blk_cell BK166.out 0).trans rfl
       have hcz20_1 : w13.cell? ⟨gb166, 1, none⟩ = some (.string (⟨#[]⟩ : ByteArray)) := (blk_cell BK166.out 1).trans rfl
       have hfz20_0 := blk_frozen BK166.out 0
       have hfz20_1 := blk_frozen BK166.out 1
       go_wp2
       go_meet
       case rel => exact ⟨_, (!(Op.bytesLess (((rd_T61 l0_1 x9_1).f0).toList) a1.toList)), ez_, H', ⟨by have := HK1.out; first | omega | exact Nat.le_refl _⟩, ⟨rz_ (Kd.R_mono (Kd.R_far (p := ⟨gb166, 1, none⟩) (Kd.R_far (p := ⟨gb166, 0, none⟩) (Kd.R_mono HO_7.out (fun k_ hk => (⟨hk, hk.2⟩ : _ ∧ k_ ≠ gb166))) (fun _ hk => hk.2) (.string ((rd_T61 l0_1 x9_1).f0))) (fun _ hk => hk.2) (.string ((rd_T61 l0_1 x9_1).f1))) (fun _ hk => hk.1.2))⟩, ⟨by (with_reducible repeat (first | refine blk_drewN ?_ _ | refine blk_drew ?_ | refine blk_alloc ?_ _)); refine blk_far ?_ NB157_166.out _; (with_reducible repeat (first | refine blk_drewN ?_ _ | refine blk_drew ?_ | refine blk_alloc ?_ _)); refine blk_far ?_ NB157_166.out _; (with_reducible repeat (first | refine blk_drewN ?_ _ | refine blk_drew ?_ | refine blk_alloc ?_ _)); exact BK157.out⟩, ⟨by (with_reducible repeat (first | refine blk_drewN ?_ _ | refine blk_drew ?_ | refine blk_alloc ?_ _)); refine blk_far ?_ NB158_166.out _; (with_reducible repeat (first | refine blk_drewN ?_ _ | refine blk_drew ?_ | refine blk_alloc ?_ _)); refine blk_far ?_ NB158_166.out _; (with_reducible repeat (first | refine blk_drewN ?_ _ | refine blk_drew ?_ | refine blk_alloc ?_ _)); exact BK158.out⟩, ⟨by (with_reducible repeat (first | refine blk_drewN ?_ _ | refine blk_drew ?_ | refine blk_alloc ?_ _)); refine blk_put (cs := #[.string ((rd_T61 l0_1 x9_1).f0), .string (⟨#[]⟩ : ByteArray)]) ?_ 1 _ rfl; (with_reducible repeat (first | refine blk_drewN ?_ _ | refine blk_drew ?_ | refine blk_alloc ?_ _)); refine blk_put (cs := #[.string (⟨#[]⟩ : ByteArray), .string (⟨#[]⟩ : ByteArray)]) ?_ 0 _ rfl; (with_reducible repeat (first | refine blk_drewN ?_ _ | refine blk_drew ?_ | refine blk_alloc ?_ _)); exact BK166.out⟩, ⟨bs3_ GE157.out GE158.out GE166.out⟩⟩
     case rest =>
      clear HC10
      try clear c1
      try clear p1
      try clear q1
      try clear hx1
      try clear c2
      try clear p2
      try clear c8
      try clear c8b0
      try clear c9
      try clear c9b0
      try clear c11
      try clear c14
      try clear c15
      try clear p16
      try clear q16
      try clear hx16
      try clear c17
      try clear c18
      try clear c19
      try clear hcz12_0
      try clear hcz12_1
      try clear hcz16_0
      try clear hcz16_1
      try clear hcz20_0
      try clear hcz20_1
      try clear hfz12_0
      try clear hfz12_1
      try clear hfz16_0
      try clear hfz16_1
      try clear hfz20_0
      try clear hfz20_1
      try clear hx165_0
      try clear hx165_1
      try clear p165
      try clear p2
      try clear q165
      obtain ⟨kq, x33_9, rfl, HA, HJ9, HO_7, BK157, BK158, BK166, HB⟩ := hcut
      cases kq with
      | zero => exact absurd HA.out (by simp [pollardref13_set.j1])
      | succ kj9 =>
       have H := HA.out
       clear HA
       simp only [pollardref13_set.j1] at H
       by_cases c21 : x33_9 = true
       ·
        subst c21
        have H1 := H
        rw [if_pos rfl] at H1
        clear H
        have H := H1
        clear H1
        by_cases c22 : x7_1.length < 4398046511104
        ·
         rw [if_pos c22] at H
         have LMc22 := Aside0.mk c22
         clear c22
         obtain ⟨y167, hy167⟩ : ∃ y_ : List (S61), y_ = (x7_1 ++ [(⟨a1, a2⟩ : S61)]) := ⟨_, rfl⟩
         replace H : (if ((rd_T61 l0_1 x9_1).f0).toList = a1.toList then (pollardref13_set.l0 kj9 a1 a2 y167 true (wrap64 (x9_1 + 1)) a0_0 l0_1) else (if y167.length < 4398046511104 then (pollardref13_set.l0 kj9 a1 a2 (y167 ++ [(⟨((rd_T61 l0_1 x9_1).f0), ((rd_T61 l0_1 x9_1).f1)⟩ : S61)]) true (wrap64 (x9_1 + 1)) a0_0 l0_1) else (none))) = some (r1, r2) := by first | (rw [hy167]; with_reducible exact H) | (have H2_ := (Option.bind_some _ _).symm.trans H; rw [hy167]; with_reducible exact H2_) | (have H2_ := (Option.bind_some _ _).symm.trans H; with_reducible exact H2_) | with_reducible exact H | (rw [hy167]; exact H) | exact H
         have Ny167 := Aside0.mk hy167
         clear hy167
         by_cases c23 : ((rd_T61 l0_1 x9_1).f0).toList = a1.toList
         · rw [if_pos c23] at H
           have c23b0 : (((rd_T61 l0_1 x9_1).f0).toList == a1.toList) = true := beq_iff_eq.mpr c23
           have c23b1 : (((rd_T61 l0_1 x9_1).f0).toList != a1.toList) = false := bne_eq_false_iff_eq.mpr c23
           clear c23
           have H' := Aside0.mk H
           clear H
           go_wp2_with (first | ((with_reducible refine gate_builtin (b := .append) (xs := #[.tmp 34, .tmp 38]) rfl ?_); at_builtin; refine Kd.R_append k61 (w0 := w) w.heap.size rfl (.tmp 34) (.tmp 38) 28 61 (.agg #[(.string ⟨#[]⟩), (.string ⟨#[]⟩)]) 32 rfl Try.underlying28 info61 rfl (by decide) (by omega) u7 x7_1 (⟨a1, a2⟩ : S61) [.string a1, .string a2] (fun k_ => k_ ≠ gb166) (fun _ => False) rfl rfl ?aP (fun _ hk => hk.elim) ?aF ?aO ?aB ?aS ?aL ?_; (case aP => exact k61_mkM _ _ _ (⟨a1, a2⟩ : S61)); (case aB => exact (bs3_ GE157.out GE158.out GE166.out)); (case aF => exact (fun k_ hk => Kd.freshB (g := gb166) (o := .cells #[.string ((rd_T61 l0_1 x9_1).f0), .string ((rd_T61 l0_1 x9_1).f1)] 61 (0, 0)) (kz_ BK166.out) k_ hk)); (case aO => exact (rz_ HO_7.out)); (case aS => exact (below_size (bs3_ GE157.out GE158.out GE166.out))); (case aL => have := LMc22.out; omega); intro v168 w24 ho hb hg hat; rw [← Ny167.out] at ho; have n0_ := Aside0.mk (blk_grown (g := gb157) (o := .cells #[.string a0_0, .slice (some ad165) l0_1.length c0_1] 30 (0, 0)) (kz_ BK157.out) hg (Kd.R_ne HO_7.out BK157.out (by decide))); have n1_ := Aside0.mk (blk_grown (g := gb158) (o := .cells #[.string (⟨#[]⟩ : ByteArray), .slice none 0 0] 30 (0, 0)) (kz_ BK158.out) hg (Kd.R_ne HO_7.out BK158.out (by decide))); have n2_ := Aside0.mk (blk_grown (g := gb166) (o := .cells #[.string ((rd_T61 l0_1 x9_1).f0), .string ((rd_T61 l0_1 x9_1).f1)] 61 (0, 0)) (kz_ BK166.out) hg (Kd.R_away HO_7.out (fun _ hk => hk))); have n3_ := Aside0.mk (hb); have n4_ := Aside0.mk (ho); clear BK157; clear BK158; clear BK166; clear HB; clear HO_7; have BK157 := n0_; have BK158 := n1_; have BK166 := n2_; have HB := n3_; have HO169 := n4_; clear n0_ n1_ n2_ n3_ n4_; clear ho hb hg hat; have hnb25 := NB166_157.out; have hnc25 := NB157_166.out; have hnb26 := NB166_158.out; have hnc26 := NB158_166.out; have hcz27_0 : w24.cell? ⟨gb166, 0, none⟩ = some (.string ((rd_T61 l0_1 x9_1).f0)) := (blk_cell BK166.out 0).trans rfl; have hcz27_1 : w24.cell? ⟨gb166, 1, none⟩ = some (.string ((rd_T61 l0_1 x9_1).f1)) := (blk_cell BK166.out 1).trans rfl; have hfz27_0 := blk_frozen BK166.out 0; have hfz27_1 := blk_frozen BK166.out 1))
           go_roundg kj9
           case measure => have := HK1.out; have := HJ9.out; omega
           case rel => exact ⟨(y167), (true), (wrap64 (x9_1 + 1)), ez_, ez_, H', ⟨by have := HK1.out; have := HJ9.out; omega⟩, ⟨rz_ (Kd.R_mono HO169.out (fun _ hk => trivial))⟩, ⟨kz_ BK157.out⟩, ⟨kz_ BK158.out⟩, ⟨bs3_ GE157.out GE158.out GE166.out⟩⟩
         ·
          rw [if_neg c23] at H
          have c23b0 : (((rd_T61 l0_1 x9_1).f0).toList == a1.toList) = false := beq_eq_false_iff_ne.mpr c23
          have c23b1 : (((rd_T61 l0_1 x9_1).f0).toList != a1.toList) = true := bne_iff_ne.mpr c23
          by_cases c28 : y167.length < 4398046511104
          · rw [if_pos c28] at H
            have LMc28 := Aside0.mk c28
            clear c28
            obtain ⟨y170, hy170⟩ : ∃ y_ : List (S61), y_ = (y167 ++ [(⟨((rd_T61 l0_1 x9_1).f0), ((rd_T61 l0_1 x9_1).f1)⟩ : S61)]) := ⟨_, rfl⟩
            replace H : (pollardref13_set.l0 kj9 a1 a2 y170 true (wrap64 (x9_1 + 1)) a0_0 l0_1) = some (r1, r2) := by first | (rw [hy170]; with_reducible exact H) | (have H2_ := (Option.bind_some _ _).symm.trans H; rw [hy170]; with_reducible exact H2_) | (have H2_ := (Option.bind_some _ _).symm.trans H; with_reducible exact H2_) | with_reducible exact H | (rw [hy170]; exact H) | exact H
            have Ny170 := Aside0.mk hy170
            clear hy170
            have H' := Aside0.mk H
            clear H
            go_wp2_with (first | ((with_reducible refine gate_builtin (b := .append) (xs := #[.tmp 34, .tmp 38]) rfl ?_); at_builtin; refine Kd.R_append k61 (w0 := w) w.heap.size rfl (.tmp 34) (.tmp 38) 28 61 (.agg #[(.string ⟨#[]⟩), (.string ⟨#[]⟩)]) 32 rfl Try.underlying28 info61 rfl (by decide) (by omega) u7 x7_1 (⟨a1, a2⟩ : S61) [.string a1, .string a2] (fun k_ => k_ ≠ gb166) (fun _ => False) rfl rfl ?aP (fun _ hk => hk.elim) ?aF ?aO ?aB ?aS ?aL ?_; (case aP => exact k61_mkM _ _ _ (⟨a1, a2⟩ : S61)); (case aB => exact (bs3_ GE157.out GE158.out GE166.out)); (case aF => exact (fun k_ hk => Kd.freshB (g := gb166) (o := .cells #[.string ((rd_T61 l0_1 x9_1).f0), .string ((rd_T61 l0_1 x9_1).f1)] 61 (0, 0)) (kz_ BK166.out) k_ hk)); (case aO => exact (rz_ HO_7.out)); (case aS => exact (below_size (bs3_ GE157.out GE158.out GE166.out))); (case aL => have := LMc22.out; omega); intro v168 w29 ho hb hg hat; rw [← Ny167.out] at ho; have n0_ := Aside0.mk (blk_grown (g := gb157) (o := .cells #[.string a0_0, .slice (some ad165) l0_1.length c0_1] 30 (0, 0)) (kz_ BK157.out) hg (Kd.R_ne HO_7.out BK157.out (by decide))); have n1_ := Aside0.mk (blk_grown (g := gb158) (o := .cells #[.string (⟨#[]⟩ : ByteArray), .slice none 0 0] 30 (0, 0)) (kz_ BK158.out) hg (Kd.R_ne HO_7.out BK158.out (by decide))); have n2_ := Aside0.mk (blk_grown (g := gb166) (o := .cells #[.string ((rd_T61 l0_1 x9_1).f0), .string ((rd_T61 l0_1 x9_1).f1)] 61 (0, 0)) (kz_ BK166.out) hg (Kd.R_away HO_7.out (fun _ hk => hk))); have n3_ := Aside0.mk (hb); have n4_ := Aside0.mk (ho); clear BK157; clear BK158; clear BK166; clear HB; clear HO_7; have BK157 := n0_; have BK158 := n1_; have BK166 := n2_; have HB := n3_; have HO169 := n4_; clear n0_ n1_ n2_ n3_ n4_; clear ho hb hg hat; have hnb30 := NB166_157.out; have hnc30 := NB157_166.out; have hnb31 := NB166_158.out; have hnc31 := NB158_166.out; have hcz32_0 : w29.cell? ⟨gb166, 0, none⟩ = some (.string ((rd_T61 l0_1 x9_1).f0)) := (blk_cell BK166.out 0).trans rfl; have hcz32_1 : w29.cell? ⟨gb166, 1, none⟩ = some (.string ((rd_T61 l0_1 x9_1).f1)) := (blk_cell BK166.out 1).trans rfl; have hfz32_0 := blk_frozen BK166.out 0; have hfz32_1 := blk_frozen BK166.out 1) | ((with_reducible refine gate_builtin (b := .append) (xs := #[.tmp 44, .tmp 46]) rfl ?_); at_builtin; refine Kd.R_append k61 (w0 := w) w.heap.size rfl (.tmp 44) (.tmp 46) 28 61 (.agg #[(.string ⟨#[]⟩), (.string ⟨#[]⟩)]) 32 rfl Try.underlying28 info61 rfl (by decide) (by omega) v168 y167 (⟨((rd_T61 l0_1 x9_1).f0), ((rd_T61 l0_1 x9_1).f1)⟩ : S61) [.string ((rd_T61 l0_1 x9_1).f0), .string ((rd_T61 l0_1 x9_1).f1)] (fun k_ => k_ ≠ gb166) (fun _ => False) rfl rfl ?aP (fun _ hk => hk.elim) ?aF ?aO ?aB ?aS ?aL ?_; (case aP => exact k61_mkM _ _ _ (⟨((rd_T61 l0_1 x9_1).f0), ((rd_T61 l0_1 x9_1).f1)⟩ : S61)); (case aB => exact (bs3_ GE157.out GE158.out GE166.out)); (case aF => exact (fun k_ hk => Kd.freshB (g := gb166) (o := .cells #[.string ((rd_T61 l0_1 x9_1).f0), .string ((rd_T61 l0_1 x9_1).f1)] 61 (0, 0)) (kz_ BK166.out) k_ hk)); (case aO => exact (rz_ HO169.out)); (case aS => exact (below_size (bs3_ GE157.out GE158.out GE166.out))); (case aL => have := LMc28.out; omega); intro v171 w33 ho hb hg hat; rw [← Ny170.out] at ho; have n0_ := Aside0.mk (blk_grown (g := gb157) (o := .cells #[.string a0_0, .slice (some ad165) l0_1.length c0_1] 30 (0, 0)) (kz_ BK157.out) hg (Kd.R_ne HO169.out BK157.out (by decide))); have n1_ := Aside0.mk (blk_grown (g := gb158) (o := .cells #[.string (⟨#[]⟩ : ByteArray), .slice none 0 0] 30 (0, 0)) (kz_ BK158.out) hg (Kd.R_ne HO169.out BK158.out (by decide))); have n2_ := Aside0.mk (blk_grown (g := gb166) (o := .cells #[.string ((rd_T61 l0_1 x9_1).f0), .string ((rd_T61 l0_1 x9_1).f1)] 61 (0, 0)) (kz_ BK166.out) hg (Kd.R_away HO169.out (fun _ hk => hk))); have n3_ := Aside0.mk (hb); have n4_ := Aside0.mk (ho); clear BK157; clear BK158; clear BK166; clear HB; clear HO169; have BK157 := n0_; have BK158 := n1_; have BK166 := n2_; have HB := n3_; have HO172 := n4_; clear n0_ n1_ n2_ n3_ n4_; clear ho hb hg hat))
            go_roundg kj9
            case measure => have := HK1.out; have := HJ9.out; omega
            case rel => exact ⟨(y170), (true), (wrap64 (x9_1 + 1)), ez_, ez_, H', ⟨by have := HK1.out; have := HJ9.out; omega⟩, ⟨rz_ (Kd.R_mono HO172.out (fun _ hk => trivial))⟩, ⟨kz_ BK157.out⟩, ⟨kz_ BK158.out⟩, ⟨bs3_ GE157.out GE158.out GE166.out⟩⟩
          · rw [if_neg c28] at H
            exact absurd H (by simp)
        · rw [if_neg c22] at H
          exact absurd H (by simp)
       ·
        replace c21 := Bool.eq_false_iff.mpr c21
        subst c21
        have H1 := H
        rw [if_neg (show ¬ (false = true) by decide)] at H1
        clear H
        have H := H1
        clear H1
        by_cases c34 : ((rd_T61 l0_1 x9_1).f0).toList = a1.toList
        ·
         rw [if_pos c34] at H
         have c34b0 : (((rd_T61 l0_1 x9_1).f0).toList == a1.toList) = true := beq_iff_eq.mpr c34
         have c34b1 : (((rd_T61 l0_1 x9_1).f0).toList != a1.toList) = false := bne_eq_false_iff_eq.mpr c34
         clear c34
         have H' := Aside0.mk H
         clear H
         have hnb35 := NB166_157.out
         have hnc35 := NB157_166.out
         have hnb36 := NB166_158.out
         have hnc36 := NB158_166.out
         have hcz37_0 : wc.cell? ⟨gb166, 0, none⟩ = some (.string ((rd_T61 l0_1 x9_1).f0)) := (blk_cell BK166.out 0).trans rfl
         have hcz37_1 : wc.cell? ⟨gb166, 1, none⟩ = some (.string ((rd_T61 l0_1 x9_1).f1)) := (blk_cell BK166.out 1).trans rfl
         have hfz37_0 := blk_frozen BK166.out 0
         have hfz37_1 := blk_frozen BK166.out 1
         go_wp2
         go_roundg kj9
         case measure => have := HK1.out; have := HJ9.out; omega
         case rel => exact ⟨(x7_1), (x8_1), (wrap64 (x9_1 + 1)), ez_, ez_, H', ⟨by have := HK1.out; have := HJ9.out; omega⟩, ⟨rz_ (Kd.R_mono HO_7.out (fun _ hk => trivial))⟩, ⟨kz_ BK157.out⟩, ⟨kz_ BK158.out⟩, ⟨bs3_ GE157.out GE158.out GE166.out⟩⟩
        ·
         rw [if_neg c34] at H
         have c34b0 : (((rd_T61 l0_1 x9_1).f0).toList == a1.toList) = false := beq_eq_false_iff_ne.mpr c34
         have c34b1 : (((rd_T61 l0_1 x9_1).f0).toList != a1.toList) = true := bne_iff_ne.mpr c34
         by_cases c38 : x7_1.length < 4398046511104
         ·
          rw [if_pos c38] at H
          have LMc38 := Aside0.mk c38
          clear c38
          obtain ⟨y173, hy173⟩ : ∃ y_ : List (S61), y_ = (x7_1 ++ [(⟨((rd_T61 l0_1 x9_1).f0), ((rd_T61 l0_1 x9_1).f1)⟩ : S61)]) := ⟨_, rfl⟩
          replace H : (pollardref13_set.l0 kj9 a1 a2 y173 x8_1 (wrap64 (x9_1 + 1)) a0_0 l0_1) = some (r1, r2) := by first | (rw [hy173]; with_reducible exact H) | (have H2_ := (Option.bind_some _ _).symm.trans H; rw [hy173]; with_reducible exact H2_) | (have H2_ := (Option.bind_some _ _).symm.trans H; with_reducible exact H2_) | with_reducible exact H | (rw [hy173]; exact H) | exact H
          have Ny173 := Aside0.mk hy173
          clear hy173
          have H' := Aside0.mk H
          clear H
          have hnb39 := NB166_157.out
          have hnc39 := NB157_166.out
          have hnb40 := NB166_158.out
          have hnc40 := NB158_166.out
          have hcz41_0 : wc.cell? ⟨gb166, 0, none⟩ = some (.string ((rd_T61 l0_1 x9_1).f0)) := (blk_cell BK166.out 0).trans rfl
          have hcz41_1 : wc.cell? ⟨gb166, 1, none⟩ = some (.string ((rd_T61 l0_1 x9_1).f1)) := (blk_cell BK166.out 1).trans rfl
          have hfz41_0 := blk_frozen BK166.out 0
          have hfz41_1 := blk_frozen BK166.out 1
          go_wp2_with (first | ((with_reducible refine gate_builtin (b := .append) (xs := #[.tmp 44, .tmp 46]) rfl ?_); at_builtin; refine Kd.R_append k61 (w0 := w) w.heap.size rfl (.tmp 44) (.tmp 46) 28 61 (.agg #[(.string ⟨#[]⟩), (.string ⟨#[]⟩)]) 32 rfl Try.underlying28 info61 rfl (by decide) (by omega) u7 x7_1 (⟨((rd_T61 l0_1 x9_1).f0), ((rd_T61 l0_1 x9_1).f1)⟩ : S61) [.string ((rd_T61 l0_1 x9_1).f0), .string ((rd_T61 l0_1 x9_1).f1)] (fun k_ => k_ ≠ gb166) (fun _ => False) rfl rfl ?aP (fun _ hk => hk.elim) ?aF ?aO ?aB ?aS ?aL ?_; (case aP => exact k61_mkM _ _ _ (⟨((rd_T61 l0_1 x9_1).f0), ((rd_T61 l0_1 x9_1).f1)⟩ : S61)); (case aB => exact (bs3_ GE157.out GE158.out GE166.out)); (case aF => exact (fun k_ hk => Kd.freshB (g := gb166) (o := .cells #[.string ((rd_T61 l0_1 x9_1).f0), .string ((rd_T61 l0_1 x9_1).f1)] 61 (0, 0)) (kz_ BK166.out) k_ hk)); (case aO => exact (rz_ HO_7.out)); (case aS => exact (below_size (bs3_ GE157.out GE158.out GE166.out))); (case aL => have := LMc38.out; omega); intro v174 w42 ho hb hg hat; rw [← Ny173.out] at ho; have n0_ := Aside0.mk (blk_grown (g := gb157) (o := .cells #[.string a0_0, .slice (some ad165) l0_1.length c0_1] 30 (0, 0)) (kz_ BK157.out) hg (Kd.R_ne HO_7.out BK157.out (by decide))); have n1_ := Aside0.mk (blk_grown (g := gb158) (o := .cells #[.string (⟨#[]⟩ : ByteArray), .slice none 0 0] 30 (0, 0)) (kz_ BK158.out) hg (Kd.R_ne HO_7.out BK158.out (by decide))); have n2_ := Aside0.mk (blk_grown (g := gb166) (o := .cells #[.string ((rd_T61 l0_1 x9_1).f0), .string ((rd_T61 l0_1 x9_1).f1)] 61 (0, 0)) (kz_ BK166.out) hg (Kd.R_away HO_7.out (fun _ hk => hk))); have n3_ := Aside0.mk (hb); have n4_ := Aside0.mk (ho); clear BK157; clear BK158; clear BK166; clear HB; clear HO_7; have BK157 := n0_; have BK158 := n1_; have BK166 := n2_; have HB := n3_; have HO175 := n4_; clear n0_ n1_ n2_ n3_ n4_; clear ho hb hg hat))
          go_roundg kj9
          case measure => have := HK1.out; have := HJ9.out; omega
          case rel => exact ⟨(y173), (x8_1), (wrap64 (x9_1 + 1)), ez_, ez_, H', ⟨by have := HK1.out; have := HJ9.out; omega⟩, ⟨rz_ (Kd.R_mono HO175.out (fun _ hk => trivial))⟩, ⟨kz_ BK157.out⟩, ⟨kz_ BK158.out⟩, ⟨bs3_ GE157.out GE158.out GE166.out⟩⟩
         · rw [if_neg c38] at H
           exact absurd H (by simp)
    · rw [if_neg c9] at H
      exact absurd H (by simp)
   ·
    rw [if_neg c8] at H
    have c8b0 : decide (x9_1 < (l0_1.length : Int)) = false := decide_eq_false c8
    clear c8
    by_cases c43 : x8_1 = true
    ·
     subst c43
     have H1 := H
     rw [if_pos rfl] at H1
     clear H
     have H := H1
     clear H1
     simp only [Option.some.injEq, Prod.mk.injEq] at H
     obtain ⟨rfl, rfl⟩ := H
     have hnb44 := NB157_158.out
     have hnc44 := NB158_157.out
     have hcz45_0 : wr.cell? ⟨gb157, 0, none⟩ = some (.string a0_0) := (blk_cell BK157.out 0).trans rfl
     have hcz45_1 : wr.cell? ⟨gb157, 1, none⟩ = some (.slice A0_1 l0_1.length c0_1) := (blk_cell BK157.out 1).trans rfl
     have hfz45_0 := blk_frozen BK157.out 0
     have hfz45_1 := blk_frozen BK157.out 1
     obtain ⟨Ao46, co46, eo46⟩ := Kd.R_slice HO_7.out
     subst eo46
     have hcz47_0 : wr.cell? ⟨gb158, 0, none⟩ = some (.string (⟨#[]⟩ : ByteArray)) := (blk_cell BK158.out 0).trans rfl
     have hcz47_1 : wr.cell? ⟨gb158, 1, none⟩ = some (.slice none 0 0) := (blk_cell BK158.out 1).trans rfl
     have hfz47_0 := blk_frozen BK158.out 0
     have hfz47_1 := blk_frozen BK158.out 1
     go_wp2
     refine bodyPost_ret (results_cell_row rfl _ _ gb158 30 #[.string a0_0, .slice Ao46 x7_1.length co46] (0, 0) _ rfl (by (with_reducible repeat (first | refine blk_drewN ?_ _ | refine blk_drew ?_ | refine blk_alloc ?_ _)); refine blk_put (cs := #[.string a0_0, .slice none 0 0]) ?_ 1 _ rfl; (with_reducible repeat (first | refine blk_drewN ?_ _ | refine blk_drew ?_ | refine blk_alloc ?_ _)); refine blk_put (cs := #[.string (⟨#[]⟩ : ByteArray), .slice none 0 0]) ?_ 0 _ rfl; (with_reducible repeat (first | refine blk_drewN ?_ _ | refine blk_drew ?_ | refine blk_alloc ?_ _)); exact BK158.out) Try.underlying30 rfl (by kernel_rfl)) rfl ?_
     exact ⟨_, xz_, rz_ (Kd.R_mono (Kd.R_far (p := ⟨gb158, 1, none⟩) (Kd.R_far (p := ⟨gb158, 0, none⟩) (Kd.R_types HO_7.out BK158.out (by decide)) (fun _ hk => hk.2) (.string a0_0)) (fun _ hk => hk.2) (.slice Ao46 x7_1.length co46)) (fun _ hk => trivial)), bs2_ GE157.out GE158.out⟩
    ·
     replace c43 := Bool.eq_false_iff.mpr c43
     subst c43
     have H1 := H
     rw [if_neg (show ¬ (false = true) by decide)] at H1
     clear H
     have H := H1
     clear H1
     by_cases c48 : x7_1.length < 4398046511104
     ·
      rw [if_pos c48] at H
      have LMc48 := Aside0.mk c48
      clear c48
      obtain ⟨y162, hy162⟩ : ∃ y_ : List (S61), y_ = (x7_1 ++ [(⟨a1, a2⟩ : S61)]) := ⟨_, rfl⟩
      replace H : (some (a0_0, y162)) = some (r1, r2) := by first | (rw [hy162]; with_reducible exact H) | (have H2_ := (Option.bind_some _ _).symm.trans H; rw [hy162]; with_reducible exact H2_) | (have H2_ := (Option.bind_some _ _).symm.trans H; with_reducible exact H2_) | with_reducible exact H | (rw [hy162]; exact H) | exact H
      have Ny162 := Aside0.mk hy162
      clear hy162
      simp only [Option.some.injEq, Prod.mk.injEq] at H
      obtain ⟨rfl, rfl⟩ := H
      have hnb49 := NB157_158.out
      have hnc49 := NB158_157.out
      have hcz50_0 : wr.cell? ⟨gb157, 0, none⟩ = some (.string a0_0) := (blk_cell BK157.out 0).trans rfl
      have hcz50_1 : wr.cell? ⟨gb157, 1, none⟩ = some (.slice A0_1 l0_1.length c0_1) := (blk_cell BK157.out 1).trans rfl
      have hfz50_0 := blk_frozen BK157.out 0
      have hfz50_1 := blk_frozen BK157.out 1
      go_wp2_with (first | ((with_reducible refine gate_builtin (b := .append) (xs := #[.tmp 50, .tmp 54]) rfl ?_); at_builtin; refine Kd.R_append k61 (w0 := w) w.heap.size rfl (.tmp 50) (.tmp 54) 28 61 (.agg #[(.string ⟨#[]⟩), (.string ⟨#[]⟩)]) 32 rfl Try.underlying28 info61 rfl (by decide) (by omega) u7 x7_1 (⟨a1, a2⟩ : S61) [.string a1, .string a2] (fun _ => True) (fun _ => False) rfl rfl ?aP (fun _ hk => hk.elim) ?aF ?aO ?aB ?aS ?aL ?_; (case aP => exact k61_mkM _ _ _ (⟨a1, a2⟩ : S61)); (case aB => exact (bs2_ GE157.out GE158.out)); (case aF => exact (fun _ _ => trivial)); (case aO => exact (rz_ HO_7.out)); (case aS => exact (below_size (bs2_ GE157.out GE158.out))); (case aL => have := LMc48.out; omega); intro v163 w51 ho hb hg hat; rw [← Ny162.out] at ho; have n0_ := Aside0.mk (blk_grown (g := gb157) (o := .cells #[.string a0_0, .slice A0_1 l0_1.length c0_1] 30 (0, 0)) (kz_ BK157.out) hg (Kd.R_ne HO_7.out BK157.out (by decide))); have n1_ := Aside0.mk (blk_grown (g := gb158) (o := .cells #[.string (⟨#[]⟩ : ByteArray), .slice none 0 0] 30 (0, 0)) (kz_ BK158.out) hg (Kd.R_ne HO_7.out BK158.out (by decide))); have n2_ := Aside0.mk (hb); have n3_ := Aside0.mk (ho); clear BK157; clear BK158; clear HB; clear HO_7; have BK157 := n0_; have BK158 := n1_; have HB := n2_; have HO164 := n3_; clear n0_ n1_ n2_ n3_; clear ho hb hg hat; have hcz52_0 : w51.cell? ⟨gb157, 0, none⟩ = some (.string a0_0) := (blk_cell BK157.out 0).trans rfl; have hcz52_1 : w51.cell? ⟨gb157, 1, none⟩ = some (.slice A0_1 l0_1.length c0_1) := (blk_cell BK157.out 1).trans rfl; have hfz52_0 := blk_frozen BK157.out 0; have hfz52_1 := blk_frozen BK157.out 1; obtain ⟨Ao53, co53, eo53⟩ := Kd.R_slice HO164.out; subst eo53; have hcz54_0 : w51.cell? ⟨gb158, 0, none⟩ = some (.string (⟨#[]⟩ : ByteArray)) := (blk_cell BK158.out 0).trans rfl; have hcz54_1 : w51.cell? ⟨gb158, 1, none⟩ = some (.slice none 0 0) := (blk_cell BK158.out 1).trans rfl; have hfz54_0 := blk_frozen BK158.out 0; have hfz54_1 := blk_frozen BK158.out 1))
      refine bodyPost_ret (results_cell_row rfl _ _ gb158 30 #[.string a0_0, .slice Ao53 y162.length co53] (0, 0) _ rfl (by (with_reducible repeat (first | refine blk_drewN ?_ _ | refine blk_drew ?_ | refine blk_alloc ?_ _)); refine blk_put (cs := #[.string a0_0, .slice none 0 0]) ?_ 1 _ rfl; (with_reducible repeat (first | refine blk_drewN ?_ _ | refine blk_drew ?_ | refine blk_alloc ?_ _)); refine blk_put (cs := #[.string (⟨#[]⟩ : ByteArray), .slice none 0 0]) ?_ 0 _ rfl; (with_reducible repeat (first | refine blk_drewN ?_ _ | refine blk_drew ?_ | refine blk_alloc ?_ _)); exact BK158.out) Try.underlying30 rfl (by kernel_rfl)) rfl ?_
      exact ⟨_, xz_, rz_ (Kd.R_mono (Kd.R_far (p := ⟨gb158, 1, none⟩) (Kd.R_far (p := ⟨gb158, 0, none⟩) (Kd.R_types HO164.out BK158.out (by decide)) (fun _ hk => hk.2) (.string a0_0)) (fun _ hk => hk.2) (.slice Ao53 y162.length co53)) (fun _ hk => trivial)), bs2_ GE157.out GE158.out⟩
     · rw [if_neg c48] at H
       exact absurd H (by simp)

end Go.Proofs.Ytgepbdkbleapaaa.M
