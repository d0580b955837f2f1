/- The program's functions as plain functions, and that each call comes to what these tell; written by a program of this session, some contracts by hand. Conditions: none. -/
import Derived.Test.YtgepbdkbleapaaaMx0
import Derived.Test.YtgepbdkbleapaaaMx9
import Derived.Test.YtgepbdkbleapaaaMx11
import Derived.Test.YtgepbdkbleapaaaMx12
namespace Go.Proofs.Ytgepbdkbleapaaa.M
open Go.RowKit Go.Proofs.YtgepbdkbleapaaaW.PrintWords Go.Proofs.YtgepbdkbleapaaaW.PrintLast Go.Proofs.YtgepbdkbleapaaaW.PrintMore
attribute [local go_sem] max2_int min2_int max_two min_two max_three min_three max_four min_four   -- for this text's walks alone
set_option linter.unusedVariables false
set_option linter.unusedSimpArgs false

/-! ### pollardref13_Apply: function 11 -/
mutual
def pollardref13_Apply.l0 : Nat → List (S35) → List (S37) → Int → ByteArray → List (S61) → ByteArray → List (S61) → Option (ByteArray × (List (S61)) × Int)
 | 0, _, _, _, _, _, _, _ => none
 | k + 1, x1, x2, x10, x177000, x177001, x180000, x180001 => if x10 < (x1.length : Int) then (pollardref13_Apply.l1 k x1 x2 x10 0 x177000 x177001 x180000 x180001) else (if (x180001.length : Int) > 256 then (some (x177000, x177001, 3)) else (some (x180000, x180001, 0)))
def pollardref13_Apply.l1 : Nat → List (S35) → List (S37) → Int → Int → ByteArray → List (S61) → ByteArray → List (S61) → Option (ByteArray × (List (S61)) × Int)
 | 0, _, _, _, _, _, _, _, _ => none
 | k + 1, x1, x2, x10, x11, x177000, x177001, x180000, x180001 => if x11 < x10 then (if 0 ≤ x11 then (if x11 < (x1.length : Int) then (if 0 ≤ x10 then (if x10 < (x1.length : Int) then (if ((rd_T35 x1 x11).f0).toList = ((rd_T35 x1 x10).f0).toList then (some (x177000, x177001, 1)) else (pollardref13_Apply.l1 k x1 x2 x10 (wrap64 (x11 + 1)) x177000 x177001 x180000 x180001)) else (none)) else (none)) else (none)) else (none)) else (if 0 ≤ x10 then (if x10 < (x1.length : Int) then ((pollardref13_why.f k x177000 x177001 ((rd_T35 x1 x10).f0) ((rd_T35 x1 x10).f1) ((rd_T35 x1 x10).f2) ((rd_T35 x1 x10).f3) x2).bind fun t183 => (if t183 = 0 then ((pollardref13_set.f k x180000 x180001 ((rd_T35 x1 x10).f0) ((rd_T35 x1 x10).f2)).bind fun bt186 => (pollardref13_Apply.l0 k x1 x2 (wrap64 (x10 + 1)) x177000 x177001 bt186.1 bt186.2)) else (some (x177000, x177001, t183)))) else (none)) else (none))
end
def pollardref13_Apply.f (k : Nat) (a0_0 : ByteArray) (l0_1 : List (S61)) (l1 : List (S35)) (l2 : List (S37)) : Option (ByteArray × (List (S61)) × Int) := if (l1.length : Int) > 256 then (some (a0_0, l0_1, 3)) else ((pollardref13_Check.f k a0_0 l0_1).bind fun t178 => (if t178 = 0 then (pollardref13_Apply.l0 k l1 l2 0 a0_0 l0_1 a0_0 l0_1) else (some (a0_0, l0_1, t178))))
theorem pollardref13_Apply.mono_l : ∀ k, (∀ y0 y1 y2 y3 y4 y5 y6, LeO (pollardref13_Apply.l0 k y0 y1 y2 y3 y4 y5 y6) (pollardref13_Apply.l0 (k + 1) y0 y1 y2 y3 y4 y5 y6)) ∧ (∀ y0 y1 y2 y3 y4 y5 y6 y7, LeO (pollardref13_Apply.l1 k y0 y1 y2 y3 y4 y5 y6 y7) (pollardref13_Apply.l1 (k + 1) y0 y1 y2 y3 y4 y5 y6 y7))
 | 0 => ⟨fun _ _ _ _ _ _ _ r h => by simp [pollardref13_Apply.l0] at h, fun _ _ _ _ _ _ _ _ r h => by simp [pollardref13_Apply.l1] at h⟩
 | k + 1 => by
  obtain ⟨ih0, ih1⟩ := pollardref13_Apply.mono_l k
  refine ⟨?_, ?_⟩
  all_goals (intros; first | unfold pollardref13_Apply.l0 | unfold pollardref13_Apply.l1)
  all_goals repeat' with_reducible first | exact ih0 _ _ _ _ _ _ _ | exact ih1 _ _ _ _ _ _ _ _ | exact pollardref13_Check.mono _ _ _ | exact pollardref13_set.mono _ _ _ _ _ | exact pollardref13_why.mono _ _ _ _ _ _ _ _ | exact LeO.refl _ | exact LeO.none _ | refine LeO.ite ?_ ?_ | refine LeO.bind ?_ (fun _ => ?_)
theorem pollardref13_Apply.mono : ∀ a0 a1 a2 a3 k, LeO (pollardref13_Apply.f k a0 a1 a2 a3) (pollardref13_Apply.f (k + 1) a0 a1 a2 a3) := by
 intro a0 a1 a2 a3 k
 obtain ⟨ih0, ih1⟩ := pollardref13_Apply.mono_l k
 unfold pollardref13_Apply.f
 repeat' with_reducible first | exact ih0 _ _ _ _ _ _ _ | exact ih1 _ _ _ _ _ _ _ _ | exact pollardref13_Check.mono _ _ _ | exact pollardref13_set.mono _ _ _ _ _ | exact pollardref13_why.mono _ _ _ _ _ _ _ _ | exact LeO.refl _ | exact LeO.none _ | refine LeO.ite ?_ ?_ | refine LeO.bind ?_ (fun _ => ?_)
def pollardref13_Apply.T13 : Bool × List (List Nat × List Nat) := (true, [([], []), ([], []), ([0, 1], [0, 1]), ([2], [2]), ([3], [3]), ([], []), ([], []), ([5, 6], [5, 6]), ([7], [7]), ([8], [8]), ([4, 9], [4, 9])])
def pollardref13_Apply.B13 : List Nat := [0, 0, 3, 7, 15, 0, 0, 96, 224, 480, 1023]
theorem pollardref13_Apply.tab13 : rtab .any (opsOf Try.f11 13) = pollardref13_Apply.T13 := by kernel_rfl
theorem pollardref13_Apply.bits13 : waitsOk pollardref13_Apply.T13.2 pollardref13_Apply.B13 = true := by kernel_rfl
def pollardref13_Apply.T15 : Bool × List (List Nat × List Nat) := (true, [([], []), ([], []), ([], []), ([1, 2], [1, 2]), ([3], [3]), ([], []), ([0, 4, 5], [0, 4, 5]), ([6, 6, 0, 1, 2, 3, 4, 5, 6], [6])])
def pollardref13_Apply.B15 : List Nat := [0, 0, 0, 6, 14, 0, 63, 127]
theorem pollardref13_Apply.tab15 : rtab .any (opsOf Try.f11 15) = pollardref13_Apply.T15 := by kernel_rfl
theorem pollardref13_Apply.bits15 : waitsOk pollardref13_Apply.T15.2 pollardref13_Apply.B15 = true := by kernel_rfl
def pollardref13_Apply.T18 : Bool × List (List Nat × List Nat) := (true, [([], []), ([], []), ([], []), ([1, 2], [1, 2]), ([3], [3]), ([4], [4]), ([], []), ([], []), ([6, 7], [6, 7]), ([8], [8]), ([9], [9]), ([0, 5, 10], [0, 5, 10]), ([11, 11, 0, 1, 2, 3, 4, 5, 6, 7, 8, 9, 10, 11], [11])])
def pollardref13_Apply.B18 : List Nat := [0, 0, 0, 6, 14, 30, 0, 0, 192, 448, 960, 2047, 4095]
theorem pollardref13_Apply.tab18 : rtab .any (opsOf Try.f11 18) = pollardref13_Apply.T18 := by kernel_rfl
theorem pollardref13_Apply.bits18 : waitsOk pollardref13_Apply.T18.2 pollardref13_Apply.B18 = true := by kernel_rfl
set_option maxHeartbeats 8000000 in
set_option maxRecDepth 100000 in
theorem pollardref13_Apply.calls (k : Nat) (a0_0 : ByteArray) (P0_1_ : Nat → Prop) (A0_1 : Option Addr) (c0_1 : Nat) (l0_1 : List (S61)) (A1 : Option Addr) (c1 : Nat) (l1 : List (S35)) (A2 : Option Addr) (c2 : Nat) (l2 : List (S37)) (r1 : ByteArray) (r2 : List (S61)) (r3 : Int) (w : World) (hs0_1 : Kd.V k61 61 w w.heap.size (fun k_ => P0_1_ k_) (.slice A0_1 l0_1.length c0_1) l0_1) (hr1 : Kd.C k35 w A1 l1.length l1) (hc1 : l1.length ≤ c1) (hr2 : Kd.C k37 w A2 l2.length l2) (hc2 : l2.length ≤ c2) (h : pollardref13_Apply.f k a0_0 l0_1 l1 l2 = some (r1, r2, r3)) :
 Calls Try.prog 11 #[.agg #[.string a0_0, .slice A0_1 l0_1.length c0_1], .slice A1 l1.length c1, .slice A2 l2.length c2] w fun e w' => ∃ v1_ : Value, e = .returned (.tuple #[.agg #[.string r1, v1_], .int .i64 r3]) ∧ Kd.V k61 61 w' w.heap.size (fun k_ => (P0_1_ k_ ∨ w.heap.size ≤ k_)) v1_ r2 ∧ Below w.heap.size w w' := by
 have hu30 := Try.underlying30
 have hu35 := Try.underlying35
 have HO0_1 := Aside0.mk (show Kd.V k61 61 w w.heap.size (fun k_ => (P0_1_ k_ ∨ w.heap.size ≤ k_)) (.slice A0_1 l0_1.length c0_1) l0_1 from Kd.V_mono hs0_1 (fun k_ hk => .inl hk))
 have HR1 := Aside0.mk hr1
 have HC1 := Aside0.mk hc1
 clear hr1 hc1
 have HR2 := Aside0.mk hr2
 have HC2 := Aside0.mk hc2
 clear hr2 hc2
 have HB := Aside0.mk (Below.refl w.heap.size w)
 have H : (if (l1.length : Int) > 256 then (some (a0_0, l0_1, 3)) else ((pollardref13_Check.f k a0_0 l0_1).bind fun t178 => (if t178 = 0 then (pollardref13_Apply.l0 k l1 l2 0 a0_0 l0_1 a0_0 l0_1) else (some (a0_0, l0_1, t178))))) = some (r1, r2, r3) := h
 clear h
 by_cases c4 : (l1.length : Int) > 256
 · rw [if_pos c4] at H
   have c4b0 : decide (256 < (l1.length : Int)) = true := decide_eq_true c4
   have c4b1 : decide (256 < l1.length) = true := decide_eq_true (by omega)
   clear c4
   simp only [Option.some.injEq, Prod.mk.injEq] at H
   obtain ⟨rfl, rfl, rfl⟩ := H
   go_enter Try.func11, Try.ntmps11
   go_wp2_with (first | ((with_reducible refine gate_dst (N := 3) rfl ?_); refine box_event ?hg (N := 3) ?hd (cs := #[.string a0_0, .slice A0_1 l0_1.length c0_1]) (t := 30) ?hr ?_; (case hd => rfl); (case hg => rfl); (case hr => first | (go_simp; done) | (go_simp; rfl)); intro gb176 hg w5 hbox hb; have n0_ := Aside0.mk (Kd.V_below (Kd.V_elderB (by (with_reducible repeat (first | apply Kd.V_alloc | apply Kd.V_drewN | apply Kd.V_drew)); exact HO0_1.out) gb176 (Nat.le_of_eq hg.symm)) hb); have n1_ := Aside0.mk (below_step bz_ hb); have n2_ := Aside0.mk (hbox); have n3_ := Aside0.mk ((by rw [hg]; exact (below_size bz_) : w.heap.size ≤ gb176)); have n4_ := Aside0.mk ((by rw [hg]; exact (below_size bz_) : w.heap.size ≤ gb176)); clear HO0_1; clear HB; have HO0_1 := n0_; have HB := n1_; have BK176 := n2_; have GW176 := n3_; have GE176 := n4_; clear n0_ n1_ n2_ n3_ n4_; clear hb hbox hg) | ((with_reducible refine gate_dst (N := 6) rfl ?_); refine box_event ?hg (N := 6) ?hd (cs := #[.string (⟨#[]⟩ : ByteArray), .slice none 0 0]) (t := 30) ?hr ?_; (case hd => rfl); (case hg => rfl); (case hr => first | (go_simp; done) | (go_simp; rfl)); intro gb177 hg w6 hbox hb; have n0_ := Aside0.mk (Kd.V_below (Kd.V_elderB (by (with_reducible repeat (first | apply Kd.V_alloc | apply Kd.V_drewN | apply Kd.V_drew)); exact HO0_1.out) gb177 (Nat.le_of_eq hg.symm)) hb); have n1_ := Aside0.mk (blk_below (g := gb176) (o := .cells #[.string a0_0, .slice A0_1 l0_1.length c0_1] 30 (0, 0)) (kz_ BK176.out) hb); have n2_ := Aside0.mk (below_step (bs1_ GE176.out) hb); have n3_ := Aside0.mk (hbox); have n4_ := Aside0.mk ((by rw [hg]; exact (below_size (bs1_ GE176.out)) : w.heap.size ≤ gb177)); have n5_ := Aside0.mk ((by rw [hg]; exact (below_size (bs1_ GE176.out)) : w.heap.size ≤ gb177)); have n6_ := Aside0.mk ((by rw [hg]; exact Nat.ne_of_lt (blk_lt (g := gb176) (o := .cells #[.string a0_0, .slice A0_1 l0_1.length c0_1] 30 (0, 0)) (kz_ BK176.out)) : gb176 ≠ gb177)); have n7_ := Aside0.mk ((by rw [hg]; exact Nat.ne_of_gt (blk_lt (g := gb176) (o := .cells #[.string a0_0, .slice A0_1 l0_1.length c0_1] 30 (0, 0)) (kz_ BK176.out)) : gb177 ≠ gb176)); clear HO0_1; clear BK176; clear HB; have HO0_1 := n0_; have BK176 := n1_; have HB := n2_; have BK177 := n3_; have GW177 := n4_; have GE177 := n5_; have NB176_177 := n6_; have NB177_176 := n7_; clear n0_ n1_ n2_ n3_ n4_ n5_ n6_ n7_; clear hb hbox hg; have hnb7 := NB176_177.out; have hnc7 := NB177_176.out; have hcz8_0 : w6.cell? ⟨gb176, 0, none⟩ = some (.string a0_0) := (blk_cell BK176.out 0).trans rfl; have hcz8_1 : w6.cell? ⟨gb176, 1, none⟩ = some (.slice A0_1 l0_1.length c0_1) := (blk_cell BK176.out 1).trans rfl; have hfz8_0 := blk_frozen BK176.out 0; have hfz8_1 := blk_frozen BK176.out 1; have hcz9_0 : w6.cell? ⟨gb177, 0, none⟩ = some (.string (⟨#[]⟩ : ByteArray)) := (blk_cell BK177.out 0).trans rfl; have hcz9_1 : w6.cell? ⟨gb177, 1, none⟩ = some (.slice none 0 0) := (blk_cell BK177.out 1).trans rfl; have hfz9_0 := blk_frozen BK177.out 0; have hfz9_1 := blk_frozen BK177.out 1))
   refine bodyPost_ret (results_ct rfl _ _ gb177 30 #[.string a0_0, .slice A0_1 l0_1.length c0_1] (0, 0) _ rfl (by (with_reducible repeat (first | refine blk_drewN ?_ _ | refine blk_drew ?_ | refine blk_alloc ?_ _)); refine blk_put (cs := #[.string a0_0, .slice none 0 0]) ?_ 1 _ rfl; (with_reducible repeat (first | refine blk_drewN ?_ _ | refine blk_drew ?_ | refine blk_alloc ?_ _)); refine blk_put (cs := #[.string (⟨#[]⟩ : ByteArray), .slice none 0 0]) ?_ 0 _ rfl; (with_reducible repeat (first | refine blk_drewN ?_ _ | refine blk_drew ?_ | refine blk_alloc ?_ _)); exact BK177.out) Try.underlying30 rfl (by kernel_rfl)) rfl ?_
   exact ⟨_, xz_, by (with_reducible repeat (first | apply Kd.V_alloc | apply Kd.V_drewN | apply Kd.V_drew)); exact Kd.V_mono (Kd.V_far (p := ⟨gb177, 1, none⟩) (Kd.V_far (p := ⟨gb177, 0, none⟩) (Kd.V_mono HO0_1.out (fun k_ hk => (⟨hk, hk.2⟩ : _ ∧ k_ ≠ gb177))) (fun _ hk => hk.2) (.string a0_0)) (fun _ hk => hk.2) (.slice A0_1 l0_1.length c0_1)) (fun _ hk => hk.1.1.1), bs2_ GE176.out GE177.out⟩
 ·
  rw [if_neg c4] at H
  have c4b0 : decide (256 < (l1.length : Int)) = false := decide_eq_false c4
  have c4b1 : decide (256 < l1.length) = false := decide_eq_false (by omega)
  clear c4
  replace H := Option.bind_eq_some_iff.mp H
  obtain ⟨t178, A100, H⟩ := H
  try dsimp only at H
  have A10 := Aside0.mk A100
  clear A100
  by_cases c11 : t178 = 0
  ·
   rw [if_pos c11] at H
   have c11b0 : (t178 == 0) = true := beq_iff_eq.mpr c11
   have c11b1 : (t178 != 0) = false := bne_eq_false_iff_eq.mpr c11
   clear c11
   have H' := Aside0.mk H
   clear H
   go_enter Try.func11, Try.ntmps11
   go_wp2_with (first | ((with_reducible refine gate_dst (N := 3) rfl ?_); refine box_event ?hg (N := 3) ?hd (cs := #[.string a0_0, .slice A0_1 l0_1.length c0_1]) (t := 30) ?hr ?_; (case hd => rfl); (case hg => rfl); (case hr => first | (go_simp; done) | (go_simp; rfl)); intro gb176 hg w12 hbox hb; have n0_ := Aside0.mk (Kd.V_below (Kd.V_elderB (by (with_reducible repeat (first | apply Kd.V_alloc | apply Kd.V_drewN | apply Kd.V_drew)); exact HO0_1.out) gb176 (Nat.le_of_eq hg.symm)) hb); have n1_ := Aside0.mk (below_step bz_ hb); have n2_ := Aside0.mk (hbox); have n3_ := Aside0.mk ((by rw [hg]; exact (below_size bz_) : w.heap.size ≤ gb176)); have n4_ := Aside0.mk ((by rw [hg]; exact (below_size bz_) : w.heap.size ≤ gb176)); clear HO0_1; clear HB; have HO0_1 := n0_; have HB := n1_; have BK176 := n2_; have GW176 := n3_; have GE176 := n4_; clear n0_ n1_ n2_ n3_ n4_; clear hb hbox hg) | ((with_reducible refine gate_dst (N := 6) rfl ?_); refine box_event ?hg (N := 6) ?hd (cs := #[.string (⟨#[]⟩ : ByteArray), .slice none 0 0]) (t := 30) ?hr ?_; (case hd => rfl); (case hg => rfl); (case hr => first | (go_simp; done) | (go_simp; rfl)); intro gb177 hg w13 hbox hb; have n0_ := Aside0.mk (Kd.V_below (Kd.V_elderB (by (with_reducible repeat (first | apply Kd.V_alloc | apply Kd.V_drewN | apply Kd.V_drew)); exact HO0_1.out) gb177 (Nat.le_of_eq hg.symm)) hb); have n1_ := Aside0.mk (blk_below (g := gb176) (o := .cells #[.string a0_0, .slice A0_1 l0_1.length c0_1] 30 (0, 0)) (kz_ BK176.out) hb); have n2_ := Aside0.mk (below_step (bs1_ GE176.out) hb); have n3_ := Aside0.mk (hbox); have n4_ := Aside0.mk ((by rw [hg]; exact (below_size (bs1_ GE176.out)) : w.heap.size ≤ gb177)); have n5_ := Aside0.mk ((by rw [hg]; exact (below_size (bs1_ GE176.out)) : w.heap.size ≤ gb177)); have n6_ := Aside0.mk ((by rw [hg]; exact Nat.ne_of_lt (blk_lt (g := gb176) (o := .cells #[.string a0_0, .slice A0_1 l0_1.length c0_1] 30 (0, 0)) (kz_ BK176.out)) : gb176 ≠ gb177)); have n7_ := Aside0.mk ((by rw [hg]; exact Nat.ne_of_gt (blk_lt (g := gb176) (o := .cells #[.string a0_0, .slice A0_1 l0_1.length c0_1] 30 (0, 0)) (kz_ BK176.out)) : gb177 ≠ gb176)); clear HO0_1; clear BK176; clear HB; have HO0_1 := n0_; have BK176 := n1_; have HB := n2_; have BK177 := n3_; have GW177 := n4_; have GE177 := n5_; have NB176_177 := n6_; have NB177_176 := n7_; clear n0_ n1_ n2_ n3_ n4_ n5_ n6_ n7_; clear hb hbox hg; have hnb14 := NB176_177.out; have hnc14 := NB177_176.out; have hcz15_0 : w13.cell? ⟨gb176, 0, none⟩ = some (.string a0_0) := (blk_cell BK176.out 0).trans rfl; have hcz15_1 : w13.cell? ⟨gb176, 1, none⟩ = some (.slice A0_1 l0_1.length c0_1) := (blk_cell BK176.out 1).trans rfl; have hfz15_0 := blk_frozen BK176.out 0; have hfz15_1 := blk_frozen BK176.out 1) | ((with_reducible refine gate_callee (f := 16) rfl ?_); refine goesM_ (some 18) Try.func16 #[.agg #[.string a0_0, .slice A0_1 l0_1.length c0_1]] ?_; (with_reducible refine (pollardref13_Check.calls k a0_0 _ _ l0_1 t178 _ ?side1 ?side2 A10.out).mono ?_); (case side1 => repeat (first | exact (Kd.V_reads' HO0_1.out).2.2 | (with_reducible refine Kd.C_alloc ?_ _) | (with_reducible refine Kd.C_drewN ?_ _) | (with_reducible refine Kd.C_drew ?_))); (case side2 => exact (Kd.V_reads' HO0_1.out).2.1); rintro e w16 ⟨rfl, hb⟩; refine ⟨_, rfl, ?_⟩; have n0_ := Aside0.mk (Kd.V_below (by (with_reducible repeat (first | apply Kd.V_alloc | apply Kd.V_drewN | apply Kd.V_drew)); exact HO0_1.out) hb); have n1_ := Aside0.mk (blk_below (g := gb176) (o := .cells #[.string a0_0, .slice A0_1 l0_1.length c0_1] 30 (0, 0)) (kz_ BK176.out) hb); have n2_ := Aside0.mk (blk_below (g := gb177) (o := .cells #[.string (⟨#[]⟩ : ByteArray), .slice none 0 0] 30 (0, 0)) (kz_ BK177.out) hb); have n3_ := Aside0.mk (below_step (bs2_ GE176.out GE177.out) hb); clear HO0_1; clear BK176; clear BK177; clear HB; have HO0_1 := n0_; have BK176 := n1_; have BK177 := n2_; have HB := n3_; clear n0_ n1_ n2_ n3_; (try clear hb); (try clear hb2); (try clear hk); (try clear hi); have hcz17_0 : w16.cell? ⟨gb176, 0, none⟩ = some (.string a0_0) := (blk_cell BK176.out 0).trans rfl; have hcz17_1 : w16.cell? ⟨gb176, 1, none⟩ = some (.slice A0_1 l0_1.length c0_1) := (blk_cell BK176.out 1).trans rfl; have hfz17_0 := blk_frozen BK176.out 0; have hfz17_1 := blk_frozen BK176.out 1) | ((with_reducible refine gate_dst (N := 9) rfl ?_); refine box_event ?hg (N := 9) ?hd (cs := #[.string (⟨#[]⟩ : ByteArray), .slice none 0 0]) (t := 30) ?hr ?_; (case hd => rfl); (case hg => rfl); (case hr => first | (go_simp; done) | (go_simp; rfl)); intro gb179 hg w18 hbox hb; have n0_ := Aside0.mk (Kd.V_below (Kd.V_elderB (by (with_reducible repeat (first | apply Kd.V_alloc | apply Kd.V_drewN | apply Kd.V_drew)); exact HO0_1.out) gb179 (Nat.le_of_eq hg.symm)) hb); have n1_ := Aside0.mk (blk_below (g := gb176) (o := .cells #[.string a0_0, .slice A0_1 l0_1.length c0_1] 30 (0, 0)) (kz_ BK176.out) hb); have n2_ := Aside0.mk (blk_below (g := gb177) (o := .cells #[.string (⟨#[]⟩ : ByteArray), .slice none 0 0] 30 (0, 0)) (kz_ BK177.out) hb); have n3_ := Aside0.mk (below_step (bs2_ GE176.out GE177.out) hb); have n4_ := Aside0.mk (hbox); have n5_ := Aside0.mk ((by rw [hg]; exact (below_size (bs2_ GE176.out GE177.out)) : w.heap.size ≤ gb179)); have n6_ := Aside0.mk ((by rw [hg]; exact (below_size (bs2_ GE176.out GE177.out)) : w.heap.size ≤ gb179)); have n7_ := Aside0.mk ((by rw [hg]; exact Nat.ne_of_lt (blk_lt (g := gb176) (o := .cells #[.string a0_0, .slice A0_1 l0_1.length c0_1] 30 (0, 0)) (kz_ BK176.out)) : gb176 ≠ gb179)); have n8_ := Aside0.mk ((by rw [hg]; exact Nat.ne_of_gt (blk_lt (g := gb176) (o := .cells #[.string a0_0, .slice A0_1 l0_1.length c0_1] 30 (0, 0)) (kz_ BK176.out)) : gb179 ≠ gb176)); have n9_ := Aside0.mk ((by rw [hg]; exact Nat.ne_of_lt (blk_lt (g := gb177) (o := .cells #[.string (⟨#[]⟩ : ByteArray), .slice none 0 0] 30 (0, 0)) (kz_ BK177.out)) : gb177 ≠ gb179)); have n10_ := Aside0.mk ((by rw [hg]; exact Nat.ne_of_gt (blk_lt (g := gb177) (o := .cells #[.string (⟨#[]⟩ : ByteArray), .slice none 0 0] 30 (0, 0)) (kz_ BK177.out)) : gb179 ≠ gb177)); clear HO0_1; clear BK176; clear BK177; clear HB; have HO0_1 := n0_; have BK176 := n1_; have BK177 := n2_; have HB := n3_; have BK179 := n4_; have GW179 := n5_; have GE179 := n6_; have NB176_179 := n7_; have NB179_176 := n8_; have NB177_179 := n9_; have NB179_177 := n10_; clear n0_ n1_ n2_ n3_ n4_ n5_ n6_ n7_ n8_ n9_ n10_; clear hb hbox hg; have hnb19 := NB179_176.out; have hnc19 := NB176_179.out; have hnb20 := NB179_177.out; have hnc20 := NB177_179.out; have hcz21_0 : w18.cell? ⟨gb179, 0, none⟩ = some (.string (⟨#[]⟩ : ByteArray)) := (blk_cell BK179.out 0).trans rfl; have hcz21_1 : w18.cell? ⟨gb179, 1, none⟩ = some (.slice none 0 0) := (blk_cell BK179.out 1).trans rfl; have hfz21_0 := blk_frozen BK179.out 0; have hfz21_1 := blk_frozen BK179.out 1))
   go_loopg [10] k (fun kq v10 w' => ∃ (x10_1 : Int) (x178000_1 : ByteArray) (x180000_1 : ByteArray) (x180001_1 : List (S61)) (u180001 : Value), v10 = .int .i64 x10_1 ∧ Aside0 (pollardref13_Apply.l0 kq l1 l2 x10_1 a0_0 l0_1 x180000_1 x180001_1 = some (r1, r2, r3)) ∧ Aside0 (kq ≤ k) ∧ Aside0 (Kd.V k61 61 w' w.heap.size (fun k_ => (P0_1_ k_ ∨ w.heap.size ≤ k_) ∧ k_ ≠ gb176 ∧ k_ ≠ gb177 ∧ k_ ≠ gb179) (.slice A0_1 l0_1.length c0_1) l0_1) ∧ Aside0 (Kd.V k61 61 w' w.heap.size (fun k_ => (P0_1_ k_ ∨ w.heap.size ≤ k_) ∧ k_ ≠ gb176 ∧ k_ ≠ gb177 ∧ k_ ≠ gb179) u180001 x180001_1) ∧ Aside0 (w'.heap[gb176]? = some (.cells #[.string a0_0, (.slice A0_1 l0_1.length c0_1)] 30 (0, 0))) ∧ Aside0 (w'.heap[gb177]? = some (.cells #[.string x178000_1, (.slice none 0 0)] 30 (0, 0))) ∧ Aside0 (w'.heap[gb179]? = some (.cells #[.string x180000_1, u180001] 30 (0, 0))) ∧ Aside0 (Below w.heap.size w w'))
   case atStart => exact ⟨(0), ((⟨#[]⟩ : ByteArray)), (a0_0), (l0_1), (.slice A0_1 l0_1.length c0_1), ez_, H', ⟨Nat.le_refl _⟩, ⟨by (with_reducible repeat (first | apply Kd.V_alloc | apply Kd.V_drewN | apply Kd.V_drew)); exact Kd.V_mono (Kd.V_far (p := ⟨gb179, 1, none⟩) (Kd.V_far (p := ⟨gb179, 0, none⟩) (Kd.V_mono HO0_1.out (fun k_ hk => (⟨hk, hk.2⟩ : _ ∧ k_ ≠ gb179))) (fun _ hk => hk.2) (.string a0_0)) (fun _ hk => hk.2) (.slice A0_1 l0_1.length c0_1)) (fun _ hk => ⟨hk.1.1.1.1, ⟨hk.1.1.1.2, ⟨hk.1.1.2, hk.1.2⟩⟩⟩)⟩, ⟨by (with_reducible repeat (first | apply Kd.V_alloc | apply Kd.V_drewN | apply Kd.V_drew)); exact Kd.V_mono (Kd.V_far (p := ⟨gb179, 1, none⟩) (Kd.V_far (p := ⟨gb179, 0, none⟩) (Kd.V_mono HO0_1.out (fun k_ hk => (⟨hk, hk.2⟩ : _ ∧ k_ ≠ gb179))) (fun _ hk => hk.2) (.string a0_0)) (fun _ hk => hk.2) (.slice A0_1 l0_1.length c0_1)) (fun _ hk => ⟨hk.1.1.1.1, ⟨hk.1.1.1.2, ⟨hk.1.1.2, hk.1.2⟩⟩⟩)⟩, ⟨by (with_reducible repeat (first | refine blk_drewN ?_ _ | refine blk_drew ?_ | refine blk_alloc ?_ _)); refine blk_far ?_ NB176_179.out _; (with_reducible repeat (first | refine blk_drewN ?_ _ | refine blk_drew ?_ | refine blk_alloc ?_ _)); refine blk_far ?_ NB176_179.out _; (with_reducible repeat (first | refine blk_drewN ?_ _ | refine blk_drew ?_ | refine blk_alloc ?_ _)); exact BK176.out⟩, ⟨by (with_reducible repeat (first | refine blk_drewN ?_ _ | refine blk_drew ?_ | refine blk_alloc ?_ _)); refine blk_far ?_ NB177_179.out _; (with_reducible repeat (first | refine blk_drewN ?_ _ | refine blk_drew ?_ | refine blk_alloc ?_ _)); refine blk_far ?_ NB177_179.out _; (with_reducible repeat (first | refine blk_drewN ?_ _ | refine blk_drew ?_ | refine blk_alloc ?_ _)); exact BK177.out⟩, ⟨by (with_reducible repeat (first | refine blk_drewN ?_ _ | refine blk_drew ?_ | refine blk_alloc ?_ _)); refine blk_put (cs := #[.string a0_0, .slice none 0 0]) ?_ 1 _ rfl; (with_reducible repeat (first | refine blk_drewN ?_ _ | refine blk_drew ?_ | refine blk_alloc ?_ _)); refine blk_put (cs := #[.string (⟨#[]⟩ : ByteArray), .slice none 0 0]) ?_ 0 _ rfl; (with_reducible repeat (first | refine blk_drewN ?_ _ | refine blk_drew ?_ | refine blk_alloc ?_ _)); exact BK179.out⟩, ⟨bs3_ GE176.out GE177.out GE179.out⟩⟩
   case round =>
    clear H'
    try clear c1
    try clear c2
    try clear p2
    try clear c4
    try clear c4b0
    try clear c4b1
    try clear c7
    try clear c11
    try clear c11b0
    try clear c11b1
    try clear c14
    try clear c16
    try clear c19
    try clear c20
    try clear hcz15_0
    try clear hcz15_1
    try clear hcz17_0
    try clear hcz17_1
    try clear hcz21_0
    try clear hcz21_1
    try clear hcz8_0
    try clear hcz8_1
    try clear hcz9_0
    try clear hcz9_1
    try clear hfz15_0
    try clear hfz15_1
    try clear hfz17_0
    try clear hfz17_1
    try clear hfz21_0
    try clear hfz21_1
    try clear hfz8_0
    try clear hfz8_1
    try clear hfz9_0
    try clear hfz9_1
    obtain ⟨x10_1, x178000_1, x180000_1, x180001_1, u180001, rfl, HA, HK1, HO_177001, HO_180001, BK176, BK177, BK179, HB⟩ := hrel
    cases gk with
    | zero => exact absurd HA.out (by simp [pollardref13_Apply.l0])
    | succ k1 =>
     have H := HA.out
     clear HA
     simp only [pollardref13_Apply.l0] at H
     by_cases c22 : x10_1 < (l1.length : Int)
     ·
      rw [if_pos c22] at H
      have c22b0 : decide (x10_1 < (l1.length : Int)) = true := decide_eq_true c22
      clear c22
      have H' := Aside0.mk H
      clear H
      go_wp2
      go_loopg [11] k1 (fun kq v11 w' => ∃ (x11_2 : Int) (x178000_2 : ByteArray), v11 = .int .i64 x11_2 ∧ Aside0 (pollardref13_Apply.l1 kq l1 l2 x10_1 x11_2 a0_0 l0_1 x180000_1 x180001_1 = some (r1, r2, r3)) ∧ Aside0 (kq ≤ k1) ∧ Aside0 (Kd.V k61 61 w' w.heap.size (fun k_ => (P0_1_ k_ ∨ w.heap.size ≤ k_) ∧ k_ ≠ gb176 ∧ k_ ≠ gb177 ∧ k_ ≠ gb179) (.slice A0_1 l0_1.length c0_1) l0_1) ∧ Aside0 (Kd.V k61 61 w' w.heap.size (fun k_ => (P0_1_ k_ ∨ w.heap.size ≤ k_) ∧ k_ ≠ gb176 ∧ k_ ≠ gb177 ∧ k_ ≠ gb179) u180001 x180001_1) ∧ Aside0 (w'.heap[gb176]? = some (.cells #[.string a0_0, (.slice A0_1 l0_1.length c0_1)] 30 (0, 0))) ∧ Aside0 (w'.heap[gb177]? = some (.cells #[.string x178000_2, (.slice none 0 0)] 30 (0, 0))) ∧ Aside0 (w'.heap[gb179]? = some (.cells #[.string x180000_1, u180001] 30 (0, 0))) ∧ Aside0 (Below w.heap.size w w'))
      case atStart => exact ⟨(0), (x178000_1), ez_, H', ⟨Nat.le_refl _⟩, ⟨by (with_reducible repeat (first | apply Kd.V_alloc | apply Kd.V_drewN | apply Kd.V_drew)); exact HO_177001.out⟩, ⟨by (with_reducible repeat (first | apply Kd.V_alloc | apply Kd.V_drewN | apply Kd.V_drew)); exact HO_180001.out⟩, ⟨kz_ BK176.out⟩, ⟨kz_ BK177.out⟩, ⟨kz_ BK179.out⟩, ⟨bs3_ GE176.out GE177.out GE179.out⟩⟩
      case round =>
       clear H'
       try clear c1
       try clear c2
       try clear p2
       try clear c4
       try clear c4b0
       try clear c4b1
       try clear c7
       try clear c11
       try clear c11b0
       try clear c11b1
       try clear c14
       try clear c16
       try clear c19
       try clear c20
       try clear c22
       try clear c22b0
       try clear hcz15_0
       try clear hcz15_1
       try clear hcz17_0
       try clear hcz17_1
       try clear hcz21_0
       try clear hcz21_1
       try clear hcz8_0
       try clear hcz8_1
       try clear hcz9_0
       try clear hcz9_1
       try clear hfz15_0
       try clear hfz15_1
       try clear hfz17_0
       try clear hfz17_1
       try clear hfz21_0
       try clear hfz21_1
       try clear hfz8_0
       try clear hfz8_1
       try clear hfz9_0
       try clear hfz9_1
       try clear p2
       obtain ⟨x11_2, x178000_2, rfl, HA, HK2, HO_177001, HO_180001, BK176, BK177, BK179, HB⟩ := hrel
       cases gk with
       | zero => exact absurd HA.out (by simp [pollardref13_Apply.l1])
       | succ k2 =>
        have H := HA.out
        clear HA
        simp only [pollardref13_Apply.l1] at H
        by_cases c23 : x11_2 < x10_1
        ·
         rw [if_pos c23] at H
         have c23b0 : decide (x11_2 < x10_1) = true := decide_eq_true c23
         clear c23
         by_cases c24 : 0 ≤ x11_2
         ·
          rw [if_pos c24] at H
          have c24b0 : decide (0 ≤ x11_2) = true := decide_eq_true c24
          clear c24
          by_cases c25 : x11_2 < (l1.length : Int)
          ·
           rw [if_pos c25] at H
           have c25b0 : decide (x11_2 < (l1.length : Int)) = true := decide_eq_true c25
           clear c25
           by_cases c26 : 0 ≤ x10_1
           ·
            rw [if_pos c26] at H
            have c26b0 : decide (0 ≤ x10_1) = true := decide_eq_true c26
            clear c26
            by_cases c27 : x10_1 < (l1.length : Int)
            ·
             rw [if_pos c27] at H
             have c27b0 : decide (x10_1 < (l1.length : Int)) = true := decide_eq_true c27
             clear c27
             by_cases c28 : ((rd_T35 l1 x11_2).f0).toList = ((rd_T35 l1 x10_1).f0).toList
             ·
              rw [if_pos c28] at H
              have c28b0 : (((rd_T35 l1 x11_2).f0).toList == ((rd_T35 l1 x10_1).f0).toList) = true := beq_iff_eq.mpr c28
              have c28b1 : (((rd_T35 l1 x11_2).f0).toList != ((rd_T35 l1 x10_1).f0).toList) = false := bne_eq_false_iff_eq.mpr c28
              clear c28
              simp only [Option.some.injEq, Prod.mk.injEq] at H
              obtain ⟨rfl, rfl, rfl⟩ := H
              try go_wp2
              have n0_ := Aside0.mk (Kd.V_drew HO_177001.out)
              have n1_ := Aside0.mk (Kd.V_drew HO_180001.out)
              have n2_ := Aside0.mk (blk_drew BK176.out)
              have n3_ := Aside0.mk (blk_drew BK177.out)
              have n4_ := Aside0.mk (blk_drew BK179.out)
              have n5_ := Aside0.mk (below_drew1 HB.out)
              clear HO_177001
              clear HO_180001
              clear BK176
              clear BK177
              clear BK179
              clear HB
              have HO_177001 := n0_
              have HO_180001 := n1_
              have BK176 := n2_
              have BK177 := n3_
              have BK179 := n4_
              have HB := n5_
              clear n0_ n1_ n2_ n3_ n4_ n5_
              have p180 : 0 ≤ (x11_2 : Int) := of_decide_eq_true az_
              have q180 : x11_2 < (l1.length : Int) := of_decide_eq_true az_
              obtain ⟨ad180, e180, hx180_0, hx180_1, hx180_2, hx180_3⟩ := at_T35 HR1.out x11_2 p180 q180
              have hw180_3 := hx180_3
              have hw180_2 := hx180_2
              have hw180_1 := hx180_1
              have hw180_0 := hx180_0
              cases e180
              replace hx180_0 := (HB.out.cell (World.block_lt_of_cell? w _ hx180_0)).trans hx180_0
              replace hx180_1 := (HB.out.cell (World.block_lt_of_cell? w _ hx180_1)).trans hx180_1
              replace hx180_2 := (HB.out.cell (World.block_lt_of_cell? w _ hx180_2)).trans hx180_2
              replace hx180_3 := (HB.out.cell (World.block_lt_of_cell? w _ hx180_3)).trans hx180_3
              replace p180 := eq_true p180
              replace q180 := eq_true q180
              have p181 : 0 ≤ (x10_1 : Int) := of_decide_eq_true az_
              have q181 : x10_1 < (l1.length : Int) := of_decide_eq_true az_
              obtain ⟨ad181, e181, hx181_0, hx181_1, hx181_2, hx181_3⟩ := at_T35 HR1.out x10_1 p181 q181
              have hw181_3 := hx181_3
              have hw181_2 := hx181_2
              have hw181_1 := hx181_1
              have hw181_0 := hx181_0
              obtain rfl : ad180 = ad181 := (by injection e181)
              replace hx181_0 := (HB.out.cell (World.block_lt_of_cell? w _ hx181_0)).trans hx181_0
              replace hx181_1 := (HB.out.cell (World.block_lt_of_cell? w _ hx181_1)).trans hx181_1
              replace hx181_2 := (HB.out.cell (World.block_lt_of_cell? w _ hx181_2)).trans hx181_2
              replace hx181_3 := (HB.out.cell (World.block_lt_of_cell? w _ hx181_3)).trans hx181_3
              replace p181 := eq_true p181
              replace q181 := eq_true q181
              refine start_ (n := 11) (S := fun w' => w'.cell? (ad180.add ((x11_2).toNat * 4)) = some (.string ((rd_T35 l1 x11_2).f0)) ∧ w'.cell? ⟨(ad180.add ((x11_2).toNat * 4)).block, (ad180.add ((x11_2).toNat * 4)).off + 1, none⟩ = some (.string ((rd_T35 l1 x11_2).f1)) ∧ w'.cell? ⟨(ad180.add ((x11_2).toNat * 4)).block, (ad180.add ((x11_2).toNat * 4)).off + 2, none⟩ = some (.string ((rd_T35 l1 x11_2).f2)) ∧ w'.cell? ⟨(ad180.add ((x11_2).toNat * 4)).block, (ad180.add ((x11_2).toNat * 4)).off + 3, none⟩ = some (.bool ((rd_T35 l1 x11_2).f3)) ∧ w'.cell? (ad180.add ((x10_1).toNat * 4)) = some (.string ((rd_T35 l1 x10_1).f0)) ∧ w'.cell? ⟨(ad180.add ((x10_1).toNat * 4)).block, (ad180.add ((x10_1).toNat * 4)).off + 1, none⟩ = some (.string ((rd_T35 l1 x10_1).f1)) ∧ w'.cell? ⟨(ad180.add ((x10_1).toNat * 4)).block, (ad180.add ((x10_1).toNat * 4)).off + 2, none⟩ = some (.string ((rd_T35 l1 x10_1).f2)) ∧ w'.cell? ⟨(ad180.add ((x10_1).toNat * 4)).block, (ad180.add ((x10_1).toNat * 4)).off + 3, none⟩ = some (.bool ((rd_T35 l1 x10_1).f3))) (ds := []) #[false, false, false, false, false, false, false, false, false, false, false] (by kernel_rfl) rfl rfl ⟨((HB.out.cell (World.block_lt_of_cell? w _ hw180_0)).trans hw180_0), ((HB.out.cell (World.block_lt_of_cell? w _ hw180_1)).trans hw180_1), ((HB.out.cell (World.block_lt_of_cell? w _ hw180_2)).trans hw180_2), ((HB.out.cell (World.block_lt_of_cell? w _ hw180_3)).trans hw180_3), ((HB.out.cell (World.block_lt_of_cell? w _ hw181_0)).trans hw181_0), ((HB.out.cell (World.block_lt_of_cell? w _ hw181_1)).trans hw181_1), ((HB.out.cell (World.block_lt_of_cell? w _ hw181_2)).trans hw181_2), ((HB.out.cell (World.block_lt_of_cell? w _ hw181_3)).trans hw181_3)⟩ (fun hHeld => ?_); refine with_tabW pollardref13_Apply.tab13 pollardref13_Apply.bits13 (fun HT_ HW_ => ?_)
              generalize wr.drew = w29 at HO_177001 HO_180001 BK176 BK177 BK179 HB hx180_0 hx180_1 hx180_2 hx180_3 hx181_0 hx181_1 hx181_2 hx181_3 hHeld ⊢
              refine pure_ (i := 0) (N := some 35) (v := ?_) (a' := ?_) #[true, false, false, false, false, false, false, false, false, false, false] rfl rfl (any_of HT_.out (by kernel_rfl)) (fun _ _ _ h => h) (Or.inl ⟨by rfl, ?_⟩) ?_ ?_
              rotate_left
              · intro w'
                go_simp
                with_reducible rfl
              rotate_left
              · simp only [Act.put, List.setIfInBounds_toArray, List.set_cons_zero, List.set_cons_succ, i64_w, i32_w]
                rfl
              refine pure_ (i := 1) (N := some 36) (v := ?_) (a' := ?_) #[true, true, false, false, false, false, false, false, false, false, false] rfl rfl (any_of HT_.out (by kernel_rfl)) (fun _ _ _ h => h) (Or.inl ⟨by rfl, ?_⟩) ?_ ?_
              rotate_left
              · intro w'
                go_simp
                with_reducible rfl
              rotate_left
              · simp only [Act.put, List.setIfInBounds_toArray, List.set_cons_zero, List.set_cons_succ, i64_w, i32_w]
                rfl
              refine pure_ (i := 2) (N := some 37) (v := ?_) (a' := ?_) #[true, true, true, false, false, false, false, false, false, false, false] rfl rfl (any_of HT_.out (by kernel_rfl)) (fun _ _ _ h => h) (Or.inl ⟨by rfl, ?_⟩) ?_ ?_
              rotate_left
              · intro w'
                go_simp
                with_reducible rfl
              rotate_left
              · simp only [Act.put, List.setIfInBounds_toArray, List.set_cons_zero, List.set_cons_succ, i64_w, i32_w]
                rfl
              refine pure_ (i := 3) (N := some 38) (v := ?_) (a' := ?_) #[true, true, true, true, false, false, false, false, false, false, false] rfl rfl (any_of HT_.out (by kernel_rfl)) (fun _ _ _ h => h) (Or.inl ⟨by rfl, ?_⟩) ?_ ?_
              rotate_left
              · intro w'
                go_simp
                with_reducible rfl
              rotate_left
              · simp only [Act.put, List.setIfInBounds_toArray, List.set_cons_zero, List.set_cons_succ, i64_w, i32_w]
                rfl
              refine pure_ (i := 5) (N := some 40) (v := ?_) (a' := ?_) #[true, true, true, true, false, true, false, false, false, false, false] rfl rfl (any_of HT_.out (by kernel_rfl)) (fun _ _ _ h => h) (Or.inl ⟨by rfl, ?_⟩) ?_ ?_
              rotate_left
              · intro w'
                go_simp
                with_reducible rfl
              rotate_left
              · simp only [Act.put, List.setIfInBounds_toArray, List.set_cons_zero, List.set_cons_succ, i64_w, i32_w]
                rfl
              refine pure_ (i := 6) (N := some 41) (v := ?_) (a' := ?_) #[true, true, true, true, false, true, true, false, false, false, false] rfl rfl (any_of HT_.out (by kernel_rfl)) (fun _ _ _ h => h) (Or.inl ⟨by rfl, ?_⟩) ?_ ?_
              rotate_left
              · intro w'
                go_simp
                with_reducible rfl
              rotate_left
              · simp only [Act.put, List.setIfInBounds_toArray, List.set_cons_zero, List.set_cons_succ, i64_w, i32_w]
                rfl
              refine pure_ (i := 7) (N := some 42) (v := ?_) (a' := ?_) #[true, true, true, true, false, true, true, true, false, false, false] rfl rfl (any_of HT_.out (by kernel_rfl)) (fun _ _ _ h => h) (Or.inl ⟨by rfl, ?_⟩) ?_ ?_
              rotate_left
              · intro w'
                go_simp
                with_reducible rfl
              rotate_left
              · simp only [Act.put, List.setIfInBounds_toArray, List.set_cons_zero, List.set_cons_succ, i64_w, i32_w]
                rfl
              refine pure_ (i := 8) (N := some 43) (v := ?_) (a' := ?_) #[true, true, true, true, false, true, true, true, true, false, false] rfl rfl (any_of HT_.out (by kernel_rfl)) (fun _ _ _ h => h) (Or.inl ⟨by rfl, ?_⟩) ?_ ?_
              rotate_left
              · intro w'
                go_simp
                with_reducible rfl
              rotate_left
              · simp only [Act.put, List.setIfInBounds_toArray, List.set_cons_zero, List.set_cons_succ, i64_w, i32_w]
                rfl
              refine take_ (i := 4) (N := some 39) (v := ?_) (a' := ?_) #[true, true, true, true, true, true, true, true, true, false, false] rfl rfl (take_ofW HT_.out HW_.out (by kernel_rfl)) (fun _ _ _ h => h) (Or.inl ⟨by rfl, ?_⟩) hHeld ?_ ?_
              rotate_left
              · rintro w' ⟨s0, s1, s2, s3, s4, s5, s6, s7⟩
                go_simp
                with_reducible rfl
              rotate_left
              · simp only [Act.put, List.setIfInBounds_toArray, List.set_cons_zero, List.set_cons_succ, i64_w, i32_w]
                rfl
              refine take_ (i := 9) (N := some 44) (v := ?_) (a' := ?_) #[true, true, true, true, true, true, true, true, true, true, false] rfl rfl (take_ofW HT_.out HW_.out (by kernel_rfl)) (fun _ _ _ h => h) (Or.inl ⟨by rfl, ?_⟩) hHeld ?_ ?_
              rotate_left
              · rintro w' ⟨s0, s1, s2, s3, s4, s5, s6, s7⟩
                go_simp
                with_reducible rfl
              rotate_left
              · simp only [Act.put, List.setIfInBounds_toArray, List.set_cons_zero, List.set_cons_succ, i64_w, i32_w]
                rfl
              refine pure_ (i := 10) (N := some 45) (v := ?_) (a' := ?_) #[true, true, true, true, true, true, true, true, true, true, true] rfl rfl (any_of HT_.out (by kernel_rfl)) (fun _ _ _ h => h) (Or.inl ⟨by rfl, ?_⟩) ?_ ?_
              rotate_left
              · intro w'
                go_simp
                with_reducible rfl
              rotate_left
              · simp only [Act.put, List.setIfInBounds_toArray, List.set_cons_zero, List.set_cons_succ, i64_w, i32_w]
                rfl
              refine done_ (done_of HT_.out (by kernel_rfl)) ?_
              have hnb30 := NB176_177.out
              have hnc30 := NB177_176.out
              have hnb31 := NB176_179.out
              have hnc31 := NB179_176.out
              have hcz32_0 : w29.cell? ⟨gb176, 0, none⟩ = some (.string a0_0) := (blk_cell BK176.out 0).trans rfl
              have hcz32_1 : w29.cell? ⟨gb176, 1, none⟩ = some (.slice A0_1 l0_1.length c0_1) := (blk_cell BK176.out 1).trans rfl
              have hfz32_0 := blk_frozen BK176.out 0
              have hfz32_1 := blk_frozen BK176.out 1
              have hnb33 := NB177_179.out
              have hnc33 := NB179_177.out
              have hcz34_0 : w29.cell? ⟨gb177, 0, none⟩ = some (.string x178000_2) := (blk_cell BK177.out 0).trans rfl
              have hcz34_1 : w29.cell? ⟨gb177, 1, none⟩ = some (.slice none 0 0) := (blk_cell BK177.out 1).trans rfl
              have hfz34_0 := blk_frozen BK177.out 0
              have hfz34_1 := blk_frozen BK177.out 1
              try go_wp2
              refine bodyPost_ret (results_ct rfl _ _ gb177 30 #[.string a0_0, .slice A0_1 l0_1.length c0_1] (0, 0) _ rfl (by (with_reducible repeat (first | refine blk_drewN ?_ _ | refine blk_drew ?_ | refine blk_alloc ?_ _)); refine blk_put (cs := #[.string a0_0, .slice none 0 0]) ?_ 1 _ rfl; (with_reducible repeat (first | refine blk_drewN ?_ _ | refine blk_drew ?_ | refine blk_alloc ?_ _)); refine blk_put (cs := #[.string x178000_2, .slice none 0 0]) ?_ 0 _ rfl; (with_reducible repeat (first | refine blk_drewN ?_ _ | refine blk_drew ?_ | refine blk_alloc ?_ _)); exact BK177.out) Try.underlying30 rfl (by kernel_rfl)) rfl ?_
              exact ⟨_, xz_, by (with_reducible repeat (first | apply Kd.V_alloc | apply Kd.V_drewN | apply Kd.V_drew)); exact Kd.V_mono (Kd.V_far (p := ⟨gb177, 1, none⟩) (Kd.V_far (p := ⟨gb177, 0, none⟩) (Kd.V_mono HO_177001.out (fun k_ hk => (⟨hk, hk.2.2.1⟩ : _ ∧ k_ ≠ gb177))) (fun _ hk => hk.2) (.string a0_0)) (fun _ hk => hk.2) (.slice A0_1 l0_1.length c0_1)) (fun _ hk => hk.1.1), bs3_ GE176.out GE177.out GE179.out⟩
             ·
              rw [if_neg c28] at H
              have c28b0 : (((rd_T35 l1 x11_2).f0).toList == ((rd_T35 l1 x10_1).f0).toList) = false := beq_eq_false_iff_ne.mpr c28
              have c28b1 : (((rd_T35 l1 x11_2).f0).toList != ((rd_T35 l1 x10_1).f0).toList) = true := bne_iff_ne.mpr c28
              have H' := Aside0.mk H
              clear H
              try go_wp2
              have n0_ := Aside0.mk (Kd.V_drew HO_177001.out)
              have n1_ := Aside0.mk (Kd.V_drew HO_180001.out)
              have n2_ := Aside0.mk (blk_drew BK176.out)
              have n3_ := Aside0.mk (blk_drew BK177.out)
              have n4_ := Aside0.mk (blk_drew BK179.out)
              have n5_ := Aside0.mk (below_drew1 HB.out)
              clear HO_177001
              clear HO_180001
              clear BK176
              clear BK177
              clear BK179
              clear HB
              have HO_177001 := n0_
              have HO_180001 := n1_
              have BK176 := n2_
              have BK177 := n3_
              have BK179 := n4_
              have HB := n5_
              clear n0_ n1_ n2_ n3_ n4_ n5_
              have p180 : 0 ≤ (x11_2 : Int) := of_decide_eq_true az_
              have q180 : x11_2 < (l1.length : Int) := of_decide_eq_true az_
              obtain ⟨ad180, e180, hx180_0, hx180_1, hx180_2, hx180_3⟩ := at_T35 HR1.out x11_2 p180 q180
              have hw180_3 := hx180_3
              have hw180_2 := hx180_2
              have hw180_1 := hx180_1
              have hw180_0 := hx180_0
              cases e180
              replace hx180_0 := (HB.out.cell (World.block_lt_of_cell? w _ hx180_0)).trans hx180_0
              replace hx180_1 := (HB.out.cell (World.block_lt_of_cell? w _ hx180_1)).trans hx180_1
              replace hx180_2 := (HB.out.cell (World.block_lt_of_cell? w _ hx180_2)).trans hx180_2
              replace hx180_3 := (HB.out.cell (World.block_lt_of_cell? w _ hx180_3)).trans hx180_3
              replace p180 := eq_true p180
              replace q180 := eq_true q180
              have p181 : 0 ≤ (x10_1 : Int) := of_decide_eq_true az_
              have q181 : x10_1 < (l1.length : Int) := of_decide_eq_true az_
              obtain ⟨ad181, e181, hx181_0, hx181_1, hx181_2, hx181_3⟩ := at_T35 HR1.out x10_1 p181 q181
              have hw181_3 := hx181_3
              have hw181_2 := hx181_2
              have hw181_1 := hx181_1
              have hw181_0 := hx181_0
              obtain rfl : ad180 = ad181 := (by injection e181)
              replace hx181_0 := (HB.out.cell (World.block_lt_of_cell? w _ hx181_0)).trans hx181_0
              replace hx181_1 := (HB.out.cell (World.block_lt_of_cell? w _ hx181_1)).trans hx181_1
              replace hx181_2 := (HB.out.cell (World.block_lt_of_cell? w _ hx181_2)).trans hx181_2
              replace hx181_3 := (HB.out.cell (World.block_lt_of_cell? w _ hx181_3)).trans hx181_3
              replace p181 := eq_true p181
              replace q181 := eq_true q181
              refine start_ (n := 11) (S := fun w' => w'.cell? (ad180.add ((x11_2).toNat * 4)) = some (.string ((rd_T35 l1 x11_2).f0)) ∧ w'.cell? ⟨(ad180.add ((x11_2).toNat * 4)).block, (ad180.add ((x11_2).toNat * 4)).off + 1, none⟩ = some (.string ((rd_T35 l1 x11_2).f1)) ∧ w'.cell? ⟨(ad180.add ((x11_2).toNat * 4)).block, (ad180.add ((x11_2).toNat * 4)).off + 2, none⟩ = some (.string ((rd_T35 l1 x11_2).f2)) ∧ w'.cell? ⟨(ad180.add ((x11_2).toNat * 4)).block, (ad180.add ((x11_2).toNat * 4)).off + 3, none⟩ = some (.bool ((rd_T35 l1 x11_2).f3)) ∧ w'.cell? (ad180.add ((x10_1).toNat * 4)) = some (.string ((rd_T35 l1 x10_1).f0)) ∧ w'.cell? ⟨(ad180.add ((x10_1).toNat * 4)).block, (ad180.add ((x10_1).toNat * 4)).off + 1, none⟩ = some (.string ((rd_T35 l1 x10_1).f1)) ∧ w'.cell? ⟨(ad180.add ((x10_1).toNat * 4)).block, (ad180.add ((x10_1).toNat * 4)).off + 2, none⟩ = some (.string ((rd_T35 l1 x10_1).f2)) ∧ w'.cell? ⟨(ad180.add ((x10_1).toNat * 4)).block, (ad180.add ((x10_1).toNat * 4)).off + 3, none⟩ = some (.bool ((rd_T35 l1 x10_1).f3))) (ds := []) #[false, false, false, false, false, false, false, false, false, false, false] (by kernel_rfl) rfl rfl ⟨((HB.out.cell (World.block_lt_of_cell? w _ hw180_0)).trans hw180_0), ((HB.out.cell (World.block_lt_of_cell? w _ hw180_1)).trans hw180_1), ((HB.out.cell (World.block_lt_of_cell? w _ hw180_2)).trans hw180_2), ((HB.out.cell (World.block_lt_of_cell? w _ hw180_3)).trans hw180_3), ((HB.out.cell (World.block_lt_of_cell? w _ hw181_0)).trans hw181_0), ((HB.out.cell (World.block_lt_of_cell? w _ hw181_1)).trans hw181_1), ((HB.out.cell (World.block_lt_of_cell? w _ hw181_2)).trans hw181_2), ((HB.out.cell (World.block_lt_of_cell? w _ hw181_3)).trans hw181_3)⟩ (fun hHeld => ?_); refine with_tabW pollardref13_Apply.tab13 pollardref13_Apply.bits13 (fun HT_ HW_ => ?_)
              generalize wr.drew = w35 at HO_177001 HO_180001 BK176 BK177 BK179 HB hx180_0 hx180_1 hx180_2 hx180_3 hx181_0 hx181_1 hx181_2 hx181_3 hHeld ⊢
              refine pure_ (i := 0) (N := some 35) (v := ?_) (a' := ?_) #[true, false, false, false, false, false, false, false, false, false, false] rfl rfl (any_of HT_.out (by kernel_rfl)) (fun _ _ _ h => h) (Or.inl ⟨by rfl, ?_⟩) ?_ ?_
              rotate_left
              · intro w'
                go_simp
                with_reducible rfl
              rotate_left
              · simp only [Act.put, List.setIfInBounds_toArray, List.set_cons_zero, List.set_cons_succ, i64_w, i32_w]
                rfl
              refine pure_ (i := 1) (N := some 36) (v := ?_) (a' := ?_) #[true, true, false, false, false, false, false, false, false, false, false] rfl rfl (any_of HT_.out (by kernel_rfl)) (fun _ _ _ h => h) (Or.inl ⟨by rfl, ?_⟩) ?_ ?_
              rotate_left
              · intro w'
                go_simp
                with_reducible rfl
              rotate_left
              · simp only [Act.put, List.setIfInBounds_toArray, List.set_cons_zero, List.set_cons_succ, i64_w, i32_w]
                rfl
              refine pure_ (i := 2) (N := some 37) (v := ?_) (a' := ?_) #[true, true, true, false, false, false, false, false, false, false, false] rfl rfl (any_of HT_.out (by kernel_rfl)) (fun _ _ _ h => h) (Or.inl ⟨by rfl, ?_⟩) ?_ ?_
              rotate_left
              · intro w'
                go_simp
                with_reducible rfl
              rotate_left
              · simp only [Act.put, List.setIfInBounds_toArray, List.set_cons_zero, List.set_cons_succ, i64_w, i32_w]
                rfl
              refine pure_ (i := 3) (N := some 38) (v := ?_) (a' := ?_) #[true, true, true, true, false, false, false, false, false, false, false] rfl rfl (any_of HT_.out (by kernel_rfl)) (fun _ _ _ h => h) (Or.inl ⟨by rfl, ?_⟩) ?_ ?_
              rotate_left
              · intro w'
                go_simp
                with_reducible rfl
              rotate_left
              · simp only [Act.put, List.setIfInBounds_toArray, List.set_cons_zero, List.set_cons_succ, i64_w, i32_w]
                rfl
              refine pure_ (i := 5) (N := some 40) (v := ?_) (a' := ?_) #[true, true, true, true, false, true, false, false, false, false, false] rfl rfl (any_of HT_.out (by kernel_rfl)) (fun _ _ _ h => h) (Or.inl ⟨by rfl, ?_⟩) ?_ ?_
              rotate_left
              · intro w'
                go_simp
                with_reducible rfl
              rotate_left
              · simp only [Act.put, List.setIfInBounds_toArray, List.set_cons_zero, List.set_cons_succ, i64_w, i32_w]
                rfl
              refine pure_ (i := 6) (N := some 41) (v := ?_) (a' := ?_) #[true, true, true, true, false, true, true, false, false, false, false] rfl rfl (any_of HT_.out (by kernel_rfl)) (fun _ _ _ h => h) (Or.inl ⟨by rfl, ?_⟩) ?_ ?_
              rotate_left
              · intro w'
                go_simp
                with_reducible rfl
              rotate_left
              · simp only [Act.put, List.setIfInBounds_toArray, List.set_cons_zero, List.set_cons_succ, i64_w, i32_w]
                rfl
              refine pure_ (i := 7) (N := some 42) (v := ?_) (a' := ?_) #[true, true, true, true, false, true, true, true, false, false, false] rfl rfl (any_of HT_.out (by kernel_rfl)) (fun _ _ _ h => h) (Or.inl ⟨by rfl, ?_⟩) ?_ ?_
              rotate_left
              · intro w'
                go_simp
                with_reducible rfl
              rotate_left
              · simp only [Act.put, List.setIfInBounds_toArray, List.set_cons_zero, List.set_cons_succ, i64_w, i32_w]
                rfl
              refine pure_ (i := 8) (N := some 43) (v := ?_) (a' := ?_) #[true, true, true, true, false, true, true, true, true, false, false] rfl rfl (any_of HT_.out (by kernel_rfl)) (fun _ _ _ h => h) (Or.inl ⟨by rfl, ?_⟩) ?_ ?_
              rotate_left
              · intro w'
                go_simp
                with_reducible rfl
              rotate_left
              · simp only [Act.put, List.setIfInBounds_toArray, List.set_cons_zero, List.set_cons_succ, i64_w, i32_w]
                rfl
              refine take_ (i := 4) (N := some 39) (v := ?_) (a' := ?_) #[true, true, true, true, true, true, true, true, true, false, false] rfl rfl (take_ofW HT_.out HW_.out (by kernel_rfl)) (fun _ _ _ h => h) (Or.inl ⟨by rfl, ?_⟩) hHeld ?_ ?_
              rotate_left
              · rintro w' ⟨s0, s1, s2, s3, s4, s5, s6, s7⟩
                go_simp
                with_reducible rfl
              rotate_left
              · simp only [Act.put, List.setIfInBounds_toArray, List.set_cons_zero, List.set_cons_succ, i64_w, i32_w]
                rfl
              refine take_ (i := 9) (N := some 44) (v := ?_) (a' := ?_) #[true, true, true, true, true, true, true, true, true, true, false] rfl rfl (take_ofW HT_.out HW_.out (by kernel_rfl)) (fun _ _ _ h => h) (Or.inl ⟨by rfl, ?_⟩) hHeld ?_ ?_
              rotate_left
              · rintro w' ⟨s0, s1, s2, s3, s4, s5, s6, s7⟩
                go_simp
                with_reducible rfl
              rotate_left
              · simp only [Act.put, List.setIfInBounds_toArray, List.set_cons_zero, List.set_cons_succ, i64_w, i32_w]
                rfl
              refine pure_ (i := 10) (N := some 45) (v := ?_) (a' := ?_) #[true, true, true, true, true, true, true, true, true, true, true] rfl rfl (any_of HT_.out (by kernel_rfl)) (fun _ _ _ h => h) (Or.inl ⟨by rfl, ?_⟩) ?_ ?_
              rotate_left
              · intro w'
                go_simp
                with_reducible rfl
              rotate_left
              · simp only [Act.put, List.setIfInBounds_toArray, List.set_cons_zero, List.set_cons_succ, i64_w, i32_w]
                rfl
              refine done_ (done_of HT_.out (by kernel_rfl)) ?_
              try go_wp2
              go_roundg k2
              case measure => have := HK1.out; have := HK2.out; omega
              case rel => exact ⟨(wrap64 (x11_2 + 1)), (x178000_2), ez_, H', ⟨by have := HK1.out; have := HK2.out; omega⟩, ⟨by (with_reducible repeat (first | apply Kd.V_alloc | apply Kd.V_drewN | apply Kd.V_drew)); exact HO_177001.out⟩, ⟨by (with_reducible repeat (first | apply Kd.V_alloc | apply Kd.V_drewN | apply Kd.V_drew)); exact HO_180001.out⟩, ⟨kz_ BK176.out⟩, ⟨kz_ BK177.out⟩, ⟨kz_ BK179.out⟩, ⟨bs3_ GE176.out GE177.out GE179.out⟩⟩
            · rw [if_neg c27] at H
              exact absurd H (by simp)
           · rw [if_neg c26] at H
             exact absurd H (by simp)
          · rw [if_neg c25] at H
            exact absurd H (by simp)
         · rw [if_neg c24] at H
           exact absurd H (by simp)
        ·
         rw [if_neg c23] at H
         have c23b0 : decide (x11_2 < x10_1) = false := decide_eq_false c23
         clear c23
         by_cases c36 : 0 ≤ x10_1
         ·
          rw [if_pos c36] at H
          have c36b0 : decide (0 ≤ x10_1) = true := decide_eq_true c36
          clear c36
          by_cases c37 : x10_1 < (l1.length : Int)
          ·
           rw [if_pos c37] at H
           have c37b0 : decide (x10_1 < (l1.length : Int)) = true := decide_eq_true c37
           clear c37
           replace H := Option.bind_eq_some_iff.mp H
           obtain ⟨t183, A380, H⟩ := H
           try dsimp only at H
           have A38 := Aside0.mk A380
           clear A380
           by_cases c39 : t183 = 0
           ·
            rw [if_pos c39] at H
            have c39b0 : (t183 == 0) = true := beq_iff_eq.mpr c39
            have c39b1 : (t183 != 0) = false := bne_eq_false_iff_eq.mpr c39
            clear c39
            replace H := Option.bind_eq_some_iff.mp H
            obtain ⟨⟨t186, t187⟩, A400, H⟩ := H
            try dsimp only at H
            have A40 := Aside0.mk A400
            clear A400
            have H' := Aside0.mk H
            clear H
            try go_wp2
            have n0_ := Aside0.mk (Kd.V_drew HO_177001.out)
            have n1_ := Aside0.mk (Kd.V_drew HO_180001.out)
            have n2_ := Aside0.mk (blk_drew BK176.out)
            have n3_ := Aside0.mk (blk_drew BK177.out)
            have n4_ := Aside0.mk (blk_drew BK179.out)
            have n5_ := Aside0.mk (below_drew1 HB.out)
            clear HO_177001
            clear HO_180001
            clear BK176
            clear BK177
            clear BK179
            clear HB
            have HO_177001 := n0_
            have HO_180001 := n1_
            have BK176 := n2_
            have BK177 := n3_
            have BK179 := n4_
            have HB := n5_
            clear n0_ n1_ n2_ n3_ n4_ n5_
            have p182 : 0 ≤ (x10_1 : Int) := of_decide_eq_true az_
            have q182 : x10_1 < (l1.length : Int) := of_decide_eq_true az_
            obtain ⟨ad182, e182, hx182_0, hx182_1, hx182_2, hx182_3⟩ := at_T35 HR1.out x10_1 p182 q182
            have hw182_3 := hx182_3
            have hw182_2 := hx182_2
            have hw182_1 := hx182_1
            have hw182_0 := hx182_0
            cases e182
            replace hx182_0 := (HB.out.cell (World.block_lt_of_cell? w _ hx182_0)).trans hx182_0
            replace hx182_1 := (HB.out.cell (World.block_lt_of_cell? w _ hx182_1)).trans hx182_1
            replace hx182_2 := (HB.out.cell (World.block_lt_of_cell? w _ hx182_2)).trans hx182_2
            replace hx182_3 := (HB.out.cell (World.block_lt_of_cell? w _ hx182_3)).trans hx182_3
            replace p182 := eq_true p182
            replace q182 := eq_true q182
            refine start_ (n := 8) (S := fun w' => w'.cell? ⟨gb176, 0, none⟩ = some (.string a0_0) ∧ w'.cell? ⟨gb176, 1, none⟩ = some (.slice A0_1 l0_1.length c0_1) ∧ w'.cell? (ad182.add ((x10_1).toNat * 4)) = some (.string ((rd_T35 l1 x10_1).f0)) ∧ w'.cell? ⟨(ad182.add ((x10_1).toNat * 4)).block, (ad182.add ((x10_1).toNat * 4)).off + 1, none⟩ = some (.string ((rd_T35 l1 x10_1).f1)) ∧ w'.cell? ⟨(ad182.add ((x10_1).toNat * 4)).block, (ad182.add ((x10_1).toNat * 4)).off + 2, none⟩ = some (.string ((rd_T35 l1 x10_1).f2)) ∧ w'.cell? ⟨(ad182.add ((x10_1).toNat * 4)).block, (ad182.add ((x10_1).toNat * 4)).off + 3, none⟩ = some (.bool ((rd_T35 l1 x10_1).f3))) (ds := []) #[false, false, false, false, false, false, false, false] (by kernel_rfl) rfl rfl ⟨(blk_cell BK176.out 0).trans rfl, (blk_cell BK176.out 1).trans rfl, ((HB.out.cell (World.block_lt_of_cell? w _ hw182_0)).trans hw182_0), ((HB.out.cell (World.block_lt_of_cell? w _ hw182_1)).trans hw182_1), ((HB.out.cell (World.block_lt_of_cell? w _ hw182_2)).trans hw182_2), ((HB.out.cell (World.block_lt_of_cell? w _ hw182_3)).trans hw182_3)⟩ (fun hHeld => ?_); refine with_tabW pollardref13_Apply.tab15 pollardref13_Apply.bits15 (fun HT_ HW_ => ?_)
            generalize wr.drew = w41 at HO_177001 HO_180001 BK176 BK177 BK179 HB hx182_0 hx182_1 hx182_2 hx182_3 hHeld ⊢
            refine pure_ (i := 1) (N := some 48) (v := ?_) (a' := ?_) #[false, true, false, false, false, false, false, false] rfl rfl (any_of HT_.out (by kernel_rfl)) (fun _ _ _ h => h) (Or.inl ⟨by rfl, ?_⟩) ?_ ?_
            rotate_left
            · intro w'
              go_simp
              with_reducible rfl
            rotate_left
            · simp only [Act.put, List.setIfInBounds_toArray, List.set_cons_zero, List.set_cons_succ, i64_w, i32_w]
              rfl
            refine pure_ (i := 2) (N := some 49) (v := ?_) (a' := ?_) #[false, true, true, false, false, false, false, false] rfl rfl (any_of HT_.out (by kernel_rfl)) (fun _ _ _ h => h) (Or.inl ⟨by rfl, ?_⟩) ?_ ?_
            rotate_left
            · intro w'
              go_simp
              with_reducible rfl
            rotate_left
            · simp only [Act.put, List.setIfInBounds_toArray, List.set_cons_zero, List.set_cons_succ, i64_w, i32_w]
              rfl
            refine pure_ (i := 3) (N := some 50) (v := ?_) (a' := ?_) #[false, true, true, true, false, false, false, false] rfl rfl (any_of HT_.out (by kernel_rfl)) (fun _ _ _ h => h) (Or.inl ⟨by rfl, ?_⟩) ?_ ?_
            rotate_left
            · intro w'
              go_simp
              with_reducible rfl
            rotate_left
            · simp only [Act.put, List.setIfInBounds_toArray, List.set_cons_zero, List.set_cons_succ, i64_w, i32_w]
              rfl
            refine pure_ (i := 5) (N := some 52) (v := ?_) (a' := ?_) #[false, true, true, true, false, true, false, false] rfl rfl (any_of HT_.out (by kernel_rfl)) (fun _ _ _ h => h) (Or.inl ⟨by rfl, ?_⟩) ?_ ?_
            rotate_left
            · intro w'
              go_simp
              with_reducible rfl
            rotate_left
            · simp only [Act.put, List.setIfInBounds_toArray, List.set_cons_zero, List.set_cons_succ, i64_w, i32_w]
              rfl
            refine take_ (i := 0) (N := some 47) (v := ?_) (a' := ?_) #[true, true, true, true, false, true, false, false] rfl rfl (take_ofW HT_.out HW_.out (by kernel_rfl)) (fun _ _ _ h => h) (Or.inl ⟨by rfl, ?_⟩) hHeld ?_ ?_
            rotate_left
            · rintro w' ⟨s0, s1, s2, s3, s4, s5⟩
              go_simp
              with_reducible rfl
            rotate_left
            · simp only [Act.put, List.setIfInBounds_toArray, List.set_cons_zero, List.set_cons_succ, i64_w, i32_w]
              rfl
            refine take_ (i := 4) (N := some 51) (v := ?_) (a' := ?_) #[true, true, true, true, true, true, false, false] rfl rfl (take_ofW HT_.out HW_.out (by kernel_rfl)) (fun _ _ _ h => h) (Or.inl ⟨by rfl, ?_⟩) hHeld ?_ ?_
            rotate_left
            · rintro w' ⟨s0, s1, s2, s3, s4, s5⟩
              go_simp
              with_reducible rfl
            rotate_left
            · simp only [Act.put, List.setIfInBounds_toArray, List.set_cons_zero, List.set_cons_succ, i64_w, i32_w]
              rfl
            refine one_ (i := 6) (N := some 53) #[true, true, true, true, true, true, true, false] rfl rfl (one_of HT_.out (by kernel_rfl)) (by decide) (fun K hK => ?_)
            refine goes_ Try.func28 (by kernel_rfl) rfl #[.agg #[.string a0_0, .slice A0_1 l0_1.length c0_1], .agg #[.string ((rd_T35 l1 x10_1).f0), .string ((rd_T35 l1 x10_1).f1), .string ((rd_T35 l1 x10_1).f2), .bool ((rd_T35 l1 x10_1).f3)], .slice A2 l2.length c2] (by rfl) rfl rfl (by (try simp only [List.map_toArray, List.map_cons, List.map_nil]); first | done | rfl | (simp only [List.length_drop, List.length_take]; rfl)) ?_
            with_reducible refine (pollardref13_why.calls k2 a0_0 _ _ l0_1 ((rd_T35 l1 x10_1).f0) ((rd_T35 l1 x10_1).f1) ((rd_T35 l1 x10_1).f2) ((rd_T35 l1 x10_1).f3) _ _ l2 t183 _ ?side1 ?side2 ?side3 ?side4 A38.out).mono ?_
            (case side1 => repeat (first | exact (Kd.V_reads' HO_177001.out).2.2 | (with_reducible refine Kd.C_alloc ?_ _) | (with_reducible refine Kd.C_drewN ?_ _) | (with_reducible refine Kd.C_drew ?_)))
            (case side2 => exact (Kd.V_reads' HO_177001.out).2.1)
            (case side3 => repeat (first | exact (Kd.C_below HR2.out HB.out) | (with_reducible refine Kd.C_alloc ?_ _) | (with_reducible refine Kd.C_drewN ?_ _) | (with_reducible refine Kd.C_drew ?_)))
            (case side4 => exact HC2.out)
            rintro e w42 ⟨rfl, hb⟩
            refine ⟨_, rfl, ?_⟩
            have n0_ := Aside0.mk (Kd.V_below (by (with_reducible repeat (first | apply Kd.V_alloc | apply Kd.V_drewN | apply Kd.V_drew)); exact HO_177001.out) hb)
            have n1_ := Aside0.mk (Kd.V_below (by (with_reducible repeat (first | apply Kd.V_alloc | apply Kd.V_drewN | apply Kd.V_drew)); exact HO_180001.out) hb)
            have n2_ := Aside0.mk (blk_below (g := gb176) (o := .cells #[.string a0_0, .slice A0_1 l0_1.length c0_1] 30 (0, 0)) (kz_ BK176.out) hb)
            have n3_ := Aside0.mk (blk_below (g := gb177) (o := .cells #[.string x178000_2, .slice none 0 0] 30 (0, 0)) (kz_ BK177.out) hb)
            have n4_ := Aside0.mk (blk_below (g := gb179) (o := .cells #[.string x180000_1, u180001] 30 (0, 0)) (kz_ BK179.out) hb)
            have n5_ := Aside0.mk (below_step (bs3_ GE176.out GE177.out GE179.out) hb)
            clear HO_177001
            clear HO_180001
            clear BK176
            clear BK177
            clear BK179
            clear HB
            have HO_177001 := n0_
            have HO_180001 := n1_
            have BK176 := n2_
            have BK177 := n3_
            have BK179 := n4_
            have HB := n5_
            clear n0_ n1_ n2_ n3_ n4_ n5_
            (try clear hb)
            (try clear hb2)
            (try clear hk)
            (try clear hi)
            refine hK.out _ _ ⟨(blk_cell BK176.out 0).trans rfl, (blk_cell BK176.out 1).trans rfl, ((HB.out.cell (World.block_lt_of_cell? w _ hw182_0)).trans hw182_0), ((HB.out.cell (World.block_lt_of_cell? w _ hw182_1)).trans hw182_1), ((HB.out.cell (World.block_lt_of_cell? w _ hw182_2)).trans hw182_2), ((HB.out.cell (World.block_lt_of_cell? w _ hw182_3)).trans hw182_3)⟩ (fun hHeld => ?_)
            clear hK K
            refine norm_ (a' := ?_) ?_ ?_
            rotate_left
            · show Act.put _ (some 53) _ = _
              simp only [Act.put, List.setIfInBounds_toArray, List.set_cons_zero, List.set_cons_succ, i64_w, i32_w]
              rfl
            refine pure_ (i := 7) (N := some 12) (v := ?_) (a' := ?_) #[true, true, true, true, true, true, true, true] rfl rfl (any_of HT_.out (by kernel_rfl)) (fun _ _ _ h => h) (Or.inl ⟨by rfl, ?_⟩) ?_ ?_
            rotate_left
            · intro w'
              go_simp
              with_reducible rfl
            rotate_left
            · simp only [Act.put, List.setIfInBounds_toArray, List.set_cons_zero, List.set_cons_succ, i64_w, i32_w]
              rfl
            refine done_ (done_of HT_.out (by kernel_rfl)) ?_
            try go_wp2
            have n0_ := Aside0.mk (Kd.V_drew HO_177001.out)
            have n1_ := Aside0.mk (Kd.V_drew HO_180001.out)
            have n2_ := Aside0.mk (blk_drew BK176.out)
            have n3_ := Aside0.mk (blk_drew BK177.out)
            have n4_ := Aside0.mk (blk_drew BK179.out)
            have n5_ := Aside0.mk (below_drew1 HB.out)
            clear HO_177001
            clear HO_180001
            clear BK176
            clear BK177
            clear BK179
            clear HB
            have HO_177001 := n0_
            have HO_180001 := n1_
            have BK176 := n2_
            have BK177 := n3_
            have BK179 := n4_
            have HB := n5_
            clear n0_ n1_ n2_ n3_ n4_ n5_
            have p184 : 0 ≤ (x10_1 : Int) := of_decide_eq_true az_
            have q184 : x10_1 < (l1.length : Int) := of_decide_eq_true az_
            obtain ⟨ad184, e184, hx184_0, hx184_1, hx184_2, hx184_3⟩ := at_T35 HR1.out x10_1 p184 q184
            have hw184_3 := hx184_3
            have hw184_2 := hx184_2
            have hw184_1 := hx184_1
            have hw184_0 := hx184_0
            obtain rfl : ad182 = ad184 := (by injection e184)
            replace hx184_0 := (HB.out.cell (World.block_lt_of_cell? w _ hx184_0)).trans hx184_0
            replace hx184_1 := (HB.out.cell (World.block_lt_of_cell? w _ hx184_1)).trans hx184_1
            replace hx184_2 := (HB.out.cell (World.block_lt_of_cell? w _ hx184_2)).trans hx184_2
            replace hx184_3 := (HB.out.cell (World.block_lt_of_cell? w _ hx184_3)).trans hx184_3
            replace p184 := eq_true p184
            replace q184 := eq_true q184
            have p185 : 0 ≤ (x10_1 : Int) := of_decide_eq_true az_
            have q185 : x10_1 < (l1.length : Int) := of_decide_eq_true az_
            obtain ⟨ad185, e185, hx185_0, hx185_1, hx185_2, hx185_3⟩ := at_T35 HR1.out x10_1 p185 q185
            have hw185_3 := hx185_3
            have hw185_2 := hx185_2
            have hw185_1 := hx185_1
            have hw185_0 := hx185_0
            obtain rfl : ad182 = ad185 := (by injection e185)
            replace hx185_0 := (HB.out.cell (World.block_lt_of_cell? w _ hx185_0)).trans hx185_0
            replace hx185_1 := (HB.out.cell (World.block_lt_of_cell? w _ hx185_1)).trans hx185_1
            replace hx185_2 := (HB.out.cell (World.block_lt_of_cell? w _ hx185_2)).trans hx185_2
            replace hx185_3 := (HB.out.cell (World.block_lt_of_cell? w _ hx185_3)).trans hx185_3
            replace p185 := eq_true p185
            replace q185 := eq_true q185
            obtain ⟨Ao44, co44, eo44⟩ := Kd.V_slice HO_180001.out
            (first | subst eo44 | (injection eo44 with f1_ f2_ f3_; have f4_ := f1_.symm; have f5_ := f3_.symm; clear f1_ f2_ f3_; subst f4_; subst f5_))
            refine start_ (n := 13) (S := fun w' => w'.cell? ⟨gb179, 0, none⟩ = some (.string x180000_1) ∧ w'.cell? ⟨gb179, 1, none⟩ = some (.slice Ao44 x180001_1.length co44) ∧ w'.cell? (ad182.add ((x10_1).toNat * 4)) = some (.string ((rd_T35 l1 x10_1).f0)) ∧ w'.cell? ⟨(ad182.add ((x10_1).toNat * 4)).block, (ad182.add ((x10_1).toNat * 4)).off + 1, none⟩ = some (.string ((rd_T35 l1 x10_1).f1)) ∧ w'.cell? ⟨(ad182.add ((x10_1).toNat * 4)).block, (ad182.add ((x10_1).toNat * 4)).off + 2, none⟩ = some (.string ((rd_T35 l1 x10_1).f2)) ∧ w'.cell? ⟨(ad182.add ((x10_1).toNat * 4)).block, (ad182.add ((x10_1).toNat * 4)).off + 3, none⟩ = some (.bool ((rd_T35 l1 x10_1).f3)) ∧ w'.cell? (ad182.add ((x10_1).toNat * 4)) = some (.string ((rd_T35 l1 x10_1).f0)) ∧ w'.cell? ⟨(ad182.add ((x10_1).toNat * 4)).block, (ad182.add ((x10_1).toNat * 4)).off + 1, none⟩ = some (.string ((rd_T35 l1 x10_1).f1)) ∧ w'.cell? ⟨(ad182.add ((x10_1).toNat * 4)).block, (ad182.add ((x10_1).toNat * 4)).off + 2, none⟩ = some (.string ((rd_T35 l1 x10_1).f2)) ∧ w'.cell? ⟨(ad182.add ((x10_1).toNat * 4)).block, (ad182.add ((x10_1).toNat * 4)).off + 3, none⟩ = some (.bool ((rd_T35 l1 x10_1).f3))) (ds := [12]) #[false, false, false, false, false, false, false, false, false, false, false, false, false] (by kernel_rfl) rfl rfl ⟨(blk_cell BK179.out 0).trans rfl, (blk_cell BK179.out 1).trans rfl, ((HB.out.cell (World.block_lt_of_cell? w _ hw184_0)).trans hw184_0), ((HB.out.cell (World.block_lt_of_cell? w _ hw184_1)).trans hw184_1), ((HB.out.cell (World.block_lt_of_cell? w _ hw184_2)).trans hw184_2), ((HB.out.cell (World.block_lt_of_cell? w _ hw184_3)).trans hw184_3), ((HB.out.cell (World.block_lt_of_cell? w _ hw185_0)).trans hw185_0), ((HB.out.cell (World.block_lt_of_cell? w _ hw185_1)).trans hw185_1), ((HB.out.cell (World.block_lt_of_cell? w _ hw185_2)).trans hw185_2), ((HB.out.cell (World.block_lt_of_cell? w _ hw185_3)).trans hw185_3)⟩ (fun hHeld => ?_); refine with_tabW pollardref13_Apply.tab18 pollardref13_Apply.bits18 (fun HT_ HW_ => ?_)
            generalize w42.drew = w43 at HO_177001 HO_180001 BK176 BK177 BK179 HB hx184_0 hx184_1 hx184_2 hx184_3 hx185_0 hx185_1 hx185_2 hx185_3 hHeld ⊢
            refine pure_ (i := 1) (N := some 59) (v := ?_) (a' := ?_) #[false, true, false, false, false, false, false, false, false, false, false, false, false] rfl rfl (any_of HT_.out (by kernel_rfl)) (fun _ _ _ h => h) (Or.inl ⟨by rfl, ?_⟩) ?_ ?_
            rotate_left
            · intro w'
              go_simp
              with_reducible rfl
            rotate_left
            · simp only [Act.put, List.setIfInBounds_toArray, List.set_cons_zero, List.set_cons_succ, i64_w, i32_w]
              rfl
            refine pure_ (i := 2) (N := some 60) (v := ?_) (a' := ?_) #[false, true, true, false, false, false, false, false, false, false, false, false, false] rfl rfl (any_of HT_.out (by kernel_rfl)) (fun _ _ _ h => h) (Or.inl ⟨by rfl, ?_⟩) ?_ ?_
            rotate_left
            · intro w'
              go_simp
              with_reducible rfl
            rotate_left
            · simp only [Act.put, List.setIfInBounds_toArray, List.set_cons_zero, List.set_cons_succ, i64_w, i32_w]
              rfl
            refine pure_ (i := 3) (N := some 61) (v := ?_) (a' := ?_) #[false, true, true, true, false, false, false, false, false, false, false, false, false] rfl rfl (any_of HT_.out (by kernel_rfl)) (fun _ _ _ h => h) (Or.inl ⟨by rfl, ?_⟩) ?_ ?_
            rotate_left
            · intro w'
              go_simp
              with_reducible rfl
            rotate_left
            · simp only [Act.put, List.setIfInBounds_toArray, List.set_cons_zero, List.set_cons_succ, i64_w, i32_w]
              rfl
            refine pure_ (i := 4) (N := some 62) (v := ?_) (a' := ?_) #[false, true, true, true, true, false, false, false, false, false, false, false, false] rfl rfl (any_of HT_.out (by kernel_rfl)) (fun _ _ _ h => h) (Or.inl ⟨by rfl, ?_⟩) ?_ ?_
            rotate_left
            · intro w'
              go_simp
              with_reducible rfl
            rotate_left
            · simp only [Act.put, List.setIfInBounds_toArray, List.set_cons_zero, List.set_cons_succ, i64_w, i32_w]
              rfl
            refine pure_ (i := 6) (N := some 64) (v := ?_) (a' := ?_) #[false, true, true, true, true, false, true, false, false, false, false, false, false] rfl rfl (any_of HT_.out (by kernel_rfl)) (fun _ _ _ h => h) (Or.inl ⟨by rfl, ?_⟩) ?_ ?_
            rotate_left
            · intro w'
              go_simp
              with_reducible rfl
            rotate_left
            · simp only [Act.put, List.setIfInBounds_toArray, List.set_cons_zero, List.set_cons_succ, i64_w, i32_w]
              rfl
            refine pure_ (i := 7) (N := some 65) (v := ?_) (a' := ?_) #[false, true, true, true, true, false, true, true, false, false, false, false, false] rfl rfl (any_of HT_.out (by kernel_rfl)) (fun _ _ _ h => h) (Or.inl ⟨by rfl, ?_⟩) ?_ ?_
            rotate_left
            · intro w'
              go_simp
              with_reducible rfl
            rotate_left
            · simp only [Act.put, List.setIfInBounds_toArray, List.set_cons_zero, List.set_cons_succ, i64_w, i32_w]
              rfl
            refine pure_ (i := 8) (N := some 66) (v := ?_) (a' := ?_) #[false, true, true, true, true, false, true, true, true, false, false, false, false] rfl rfl (any_of HT_.out (by kernel_rfl)) (fun _ _ _ h => h) (Or.inl ⟨by rfl, ?_⟩) ?_ ?_
            rotate_left
            · intro w'
              go_simp
              with_reducible rfl
            rotate_left
            · simp only [Act.put, List.setIfInBounds_toArray, List.set_cons_zero, List.set_cons_succ, i64_w, i32_w]
              rfl
            refine pure_ (i := 9) (N := some 67) (v := ?_) (a' := ?_) #[false, true, true, true, true, false, true, true, true, true, false, false, false] rfl rfl (any_of HT_.out (by kernel_rfl)) (fun _ _ _ h => h) (Or.inl ⟨by rfl, ?_⟩) ?_ ?_
            rotate_left
            · intro w'
              go_simp
              with_reducible rfl
            rotate_left
            · simp only [Act.put, List.setIfInBounds_toArray, List.set_cons_zero, List.set_cons_succ, i64_w, i32_w]
              rfl
            refine take_ (i := 0) (N := some 58) (v := ?_) (a' := ?_) #[true, true, true, true, true, false, true, true, true, true, false, false, false] rfl rfl (take_ofW HT_.out HW_.out (by kernel_rfl)) (fun _ _ _ h => h) (Or.inl ⟨by rfl, ?_⟩) hHeld ?_ ?_
            rotate_left
            · rintro w' ⟨s0, s1, s2, s3, s4, s5, s6, s7, s8, s9⟩
              go_simp
              with_reducible rfl
            rotate_left
            · simp only [Act.put, List.setIfInBounds_toArray, List.set_cons_zero, List.set_cons_succ, i64_w, i32_w]
              rfl
            refine take_ (i := 5) (N := some 63) (v := ?_) (a' := ?_) #[true, true, true, true, true, true, true, true, true, true, false, false, false] rfl rfl (take_ofW HT_.out HW_.out (by kernel_rfl)) (fun _ _ _ h => h) (Or.inl ⟨by rfl, ?_⟩) hHeld ?_ ?_
            rotate_left
            · rintro w' ⟨s0, s1, s2, s3, s4, s5, s6, s7, s8, s9⟩
              go_simp
              with_reducible rfl
            rotate_left
            · simp only [Act.put, List.setIfInBounds_toArray, List.set_cons_zero, List.set_cons_succ, i64_w, i32_w]
              rfl
            refine take_ (i := 10) (N := some 68) (v := ?_) (a' := ?_) #[true, true, true, true, true, true, true, true, true, true, true, false, false] rfl rfl (take_ofW HT_.out HW_.out (by kernel_rfl)) (fun _ _ _ h => h) (Or.inl ⟨by rfl, ?_⟩) hHeld ?_ ?_
            rotate_left
            · rintro w' ⟨s0, s1, s2, s3, s4, s5, s6, s7, s8, s9⟩
              go_simp
              with_reducible rfl
            rotate_left
            · simp only [Act.put, List.setIfInBounds_toArray, List.set_cons_zero, List.set_cons_succ, i64_w, i32_w]
              rfl
            refine one_ (i := 11) (N := some 69) #[true, true, true, true, true, true, true, true, true, true, true, true, false] rfl rfl (one_of HT_.out (by kernel_rfl)) (by decide) (fun K hK => ?_)
            refine goes_ Try.func29 (by kernel_rfl) rfl #[.agg #[.string x180000_1, .slice Ao44 x180001_1.length co44], .string ((rd_T35 l1 x10_1).f0), .string ((rd_T35 l1 x10_1).f2)] (by rfl) rfl rfl (by (try simp only [List.map_toArray, List.map_cons, List.map_nil]); first | done | rfl | (simp only [List.length_drop, List.length_take]; rfl)) ?_
            with_reducible refine (pollardref13_set.calls k2 x180000_1 _ _ x180001_1 ((rd_T35 l1 x10_1).f0) ((rd_T35 l1 x10_1).f2) t186 t187 _ ?side1 ?side2 A40.out).mono ?_
            (case side1 => repeat (first | exact (Kd.V_reads' HO_180001.out).2.2 | (with_reducible refine Kd.C_alloc ?_ _) | (with_reducible refine Kd.C_drewN ?_ _) | (with_reducible refine Kd.C_drew ?_)))
            (case side2 => exact (Kd.V_reads' HO_180001.out).2.1)
            rintro e w45 ⟨v188, rfl, ho0, hb⟩
            refine ⟨_, rfl, ?_⟩
            have n0_ := Aside0.mk (Kd.V_elder' (by (with_reducible repeat (first | apply Kd.V_alloc | apply Kd.V_drewN | apply Kd.V_drew)); exact HO_177001.out) (Kd.R_base ho0) hb)
            have n1_ := Aside0.mk (Kd.V_elder' (by (with_reducible repeat (first | apply Kd.V_alloc | apply Kd.V_drewN | apply Kd.V_drew)); exact HO_180001.out) (Kd.R_base ho0) hb)
            have n2_ := Aside0.mk (Kd.R_lower (Kd.R_newM (M := fun k_ => (w.heap.size ≤ k_)) ho0 (below_size (bs3_ GE176.out GE177.out GE179.out)) (fun k_ h_ => h_)) (below_size (bs3_ GE176.out GE177.out GE179.out)))
            have n3_ := Aside0.mk (blk_below (g := gb176) (o := .cells #[.string a0_0, .slice A0_1 l0_1.length c0_1] 30 (0, 0)) (kz_ BK176.out) hb)
            have n4_ := Aside0.mk (blk_below (g := gb177) (o := .cells #[.string x178000_2, .slice none 0 0] 30 (0, 0)) (kz_ BK177.out) hb)
            have n5_ := Aside0.mk (blk_below (g := gb179) (o := .cells #[.string x180000_1, .slice Ao44 x180001_1.length co44] 30 (0, 0)) (kz_ BK179.out) hb)
            have n6_ := Aside0.mk (below_step (bs3_ GE176.out GE177.out GE179.out) hb)
            clear HO_177001
            clear HO_180001
            clear BK176
            clear BK177
            clear BK179
            clear HB
            have HO_177001 := n0_
            have HO_180001 := n1_
            have HO189 := n2_
            have BK176 := n3_
            have BK177 := n4_
            have BK179 := n5_
            have HB := n6_
            clear n0_ n1_ n2_ n3_ n4_ n5_ n6_
            (try clear hb)
            (try clear hb2)
            (try clear hk)
            (try clear hi)
            (try clear ho0)
            obtain ⟨Ao47, co47, eo47⟩ := Kd.R_slice HO189.out
            (first | subst eo47 | (injection eo47 with f1_ f2_ f3_; have f4_ := f1_.symm; have f5_ := f3_.symm; clear f1_ f2_ f3_; subst f4_; subst f5_))
            refine hK.out _ _ ⟨(blk_cell BK179.out 0).trans rfl, (blk_cell BK179.out 1).trans rfl, ((HB.out.cell (World.block_lt_of_cell? w _ hw184_0)).trans hw184_0), ((HB.out.cell (World.block_lt_of_cell? w _ hw184_1)).trans hw184_1), ((HB.out.cell (World.block_lt_of_cell? w _ hw184_2)).trans hw184_2), ((HB.out.cell (World.block_lt_of_cell? w _ hw184_3)).trans hw184_3), ((HB.out.cell (World.block_lt_of_cell? w _ hw185_0)).trans hw185_0), ((HB.out.cell (World.block_lt_of_cell? w _ hw185_1)).trans hw185_1), ((HB.out.cell (World.block_lt_of_cell? w _ hw185_2)).trans hw185_2), ((HB.out.cell (World.block_lt_of_cell? w _ hw185_3)).trans hw185_3)⟩ (fun hHeld => ?_)
            clear hK K
            refine norm_ (a' := ?_) ?_ ?_
            rotate_left
            · show Act.put _ (some 69) _ = _
              simp only [Act.put, List.setIfInBounds_toArray, List.set_cons_zero, List.set_cons_succ, i64_w, i32_w]
              rfl
            refine last_ (i := 12) (N := none) #[true, true, true, true, true, true, true, true, true, true, true, true, true] rfl rfl (one_of HT_.out (by kernel_rfl)) (by decide) (fun K hK => ?_)
            have hs46 : w45.cell? ⟨gb179, 0, none⟩ = some (.string x180000_1) := (blk_cell BK179.out 0).trans rfl
            have hfs46 := blk_frozen BK179.out 0
            have hns46_0 := NB176_179.out
            have hns46_1 := NB177_179.out
            have hms46_0 := NB179_176.out
            have hms46_1 := NB179_177.out
            have hs48 : w45.cell? ⟨gb179, 1, none⟩ = some (.slice Ao44 x180001_1.length co44) := (blk_cell BK179.out 1).trans rfl
            have hfs48 := blk_frozen BK179.out 1
            have hns48_0 := NB176_179.out
            have hns48_1 := NB177_179.out
            have hms48_0 := NB179_176.out
            have hms48_1 := NB179_177.out
            refine skip_ (w1 := ?_) (by rfl) rfl ?_ ?_
            rotate_left
            · go_simp
              rfl
            refine hK.out _ _ ?_
            clear hK K
            refine done_ (done_of HT_.out (by kernel_rfl)) ?_
            try go_wp2
            go_roundg k2
            case measure => have := HK1.out; have := HK2.out; omega
            case rel => exact ⟨(wrap64 (x10_1 + 1)), (x178000_2), (t186), (t187), (.slice Ao47 t187.length co47), ez_, H', ⟨by have := HK1.out; have := HK2.out; omega⟩, ⟨by (with_reducible repeat (first | apply Kd.V_alloc | apply Kd.V_drewN | apply Kd.V_drew)); exact Kd.V_mono (Kd.V_far (p := ⟨gb179, 1, none⟩) (Kd.V_far (p := ⟨gb179, 0, none⟩) (Kd.V_mono HO_177001.out (fun k_ hk => (⟨hk, hk.1.2.2.2⟩ : _ ∧ k_ ≠ gb179))) (fun _ hk => hk.2) (.string t186)) (fun _ hk => hk.2) (.slice Ao47 t187.length co47)) (fun _ hk => ⟨hk.1.1.1, ⟨hk.1.1.2.1, ⟨hk.1.1.2.2.1, hk.1.1.2.2.2⟩⟩⟩)⟩, ⟨Kd.V_mono (Kd.R_V (ok := fun k_ => w.heap.size ≤ k_ ∧ k_ ≠ gb176 ∧ k_ ≠ gb177 ∧ k_ ≠ gb179) (base' := w.heap.size) (by (with_reducible repeat (first | apply Kd.R_alloc | apply Kd.R_drewN | apply Kd.R_drew)); exact Kd.R_mono (Kd.R_far (p := ⟨gb179, 1, none⟩) (Kd.R_far (p := ⟨gb179, 0, none⟩) (Kd.R_types (Kd.R_types (Kd.R_types (Kd.R_types HO189.out BK176.out (by decide)) BK177.out (by decide)) BK179.out (by decide)) BK179.out (by decide)) (fun _ hk => hk.2) (.string t186)) (fun _ hk => hk.2) (.slice Ao47 t187.length co47)) (fun _ hk => ⟨hk.1.1.1.1.1, ⟨hk.1.1.1.2, ⟨hk.1.1.2, hk.1.2⟩⟩⟩))) (fun k_ hk => by first | exact ⟨(.inr (hk.1)), hk.2⟩ | exact (.inr (hk)))⟩, ⟨by (with_reducible repeat (first | refine blk_drewN ?_ _ | refine blk_drew ?_ | refine blk_alloc ?_ _)); refine blk_far ?_ NB176_179.out _; (with_reducible repeat (first | refine blk_drewN ?_ _ | refine blk_drew ?_ | refine blk_alloc ?_ _)); refine blk_far ?_ NB176_179.out _; (with_reducible repeat (first | refine blk_drewN ?_ _ | refine blk_drew ?_ | refine blk_alloc ?_ _)); exact BK176.out⟩, ⟨by (with_reducible repeat (first | refine blk_drewN ?_ _ | refine blk_drew ?_ | refine blk_alloc ?_ _)); refine blk_far ?_ NB177_179.out _; (with_reducible repeat (first | refine blk_drewN ?_ _ | refine blk_drew ?_ | refine blk_alloc ?_ _)); refine blk_far ?_ NB177_179.out _; (with_reducible repeat (first | refine blk_drewN ?_ _ | refine blk_drew ?_ | refine blk_alloc ?_ _)); exact BK177.out⟩, ⟨by (with_reducible repeat (first | refine blk_drewN ?_ _ | refine blk_drew ?_ | refine blk_alloc ?_ _)); refine blk_put (cs := #[.string t186, .slice Ao44 x180001_1.length co44]) ?_ 1 _ rfl; (with_reducible repeat (first | refine blk_drewN ?_ _ | refine blk_drew ?_ | refine blk_alloc ?_ _)); refine blk_put (cs := #[.string x180000_1, .slice Ao44 x180001_1.length co44]) ?_ 0 _ rfl; (with_reducible repeat (first | refine blk_drewN ?_ _ | refine blk_drew ?_ | refine blk_alloc ?_ _)); exact BK179.out⟩, ⟨bs3_ GE176.out GE177.out GE179.out⟩⟩
           ·
            rw [if_neg c39] at H
            have c39b0 : (t183 == 0) = false := beq_eq_false_iff_ne.mpr c39
            have c39b1 : (t183 != 0) = true := bne_iff_ne.mpr c39
            simp only [Option.some.injEq, Prod.mk.injEq] at H
            obtain ⟨rfl, rfl, rfl⟩ := H
            try go_wp2
            have n0_ := Aside0.mk (Kd.V_drew HO_177001.out)
            have n1_ := Aside0.mk (Kd.V_drew HO_180001.out)
            have n2_ := Aside0.mk (blk_drew BK176.out)
            have n3_ := Aside0.mk (blk_drew BK177.out)
            have n4_ := Aside0.mk (blk_drew BK179.out)
            have n5_ := Aside0.mk (below_drew1 HB.out)
            clear HO_177001
            clear HO_180001
            clear BK176
            clear BK177
            clear BK179
            clear HB
            have HO_177001 := n0_
            have HO_180001 := n1_
            have BK176 := n2_
            have BK177 := n3_
            have BK179 := n4_
            have HB := n5_
            clear n0_ n1_ n2_ n3_ n4_ n5_
            have p182 : 0 ≤ (x10_1 : Int) := of_decide_eq_true az_
            have q182 : x10_1 < (l1.length : Int) := of_decide_eq_true az_
            obtain ⟨ad182, e182, hx182_0, hx182_1, hx182_2, hx182_3⟩ := at_T35 HR1.out x10_1 p182 q182
            have hw182_3 := hx182_3
            have hw182_2 := hx182_2
            have hw182_1 := hx182_1
            have hw182_0 := hx182_0
            cases e182
            replace hx182_0 := (HB.out.cell (World.block_lt_of_cell? w _ hx182_0)).trans hx182_0
            replace hx182_1 := (HB.out.cell (World.block_lt_of_cell? w _ hx182_1)).trans hx182_1
            replace hx182_2 := (HB.out.cell (World.block_lt_of_cell? w _ hx182_2)).trans hx182_2
            replace hx182_3 := (HB.out.cell (World.block_lt_of_cell? w _ hx182_3)).trans hx182_3
            replace p182 := eq_true p182
            replace q182 := eq_true q182
            refine start_ (n := 8) (S := fun w' => w'.cell? ⟨gb176, 0, none⟩ = some (.string a0_0) ∧ w'.cell? ⟨gb176, 1, none⟩ = some (.slice A0_1 l0_1.length c0_1) ∧ w'.cell? (ad182.add ((x10_1).toNat * 4)) = some (.string ((rd_T35 l1 x10_1).f0)) ∧ w'.cell? ⟨(ad182.add ((x10_1).toNat * 4)).block, (ad182.add ((x10_1).toNat * 4)).off + 1, none⟩ = some (.string ((rd_T35 l1 x10_1).f1)) ∧ w'.cell? ⟨(ad182.add ((x10_1).toNat * 4)).block, (ad182.add ((x10_1).toNat * 4)).off + 2, none⟩ = some (.string ((rd_T35 l1 x10_1).f2)) ∧ w'.cell? ⟨(ad182.add ((x10_1).toNat * 4)).block, (ad182.add ((x10_1).toNat * 4)).off + 3, none⟩ = some (.bool ((rd_T35 l1 x10_1).f3))) (ds := []) #[false, false, false, false, false, false, false, false] (by kernel_rfl) rfl rfl ⟨(blk_cell BK176.out 0).trans rfl, (blk_cell BK176.out 1).trans rfl, ((HB.out.cell (World.block_lt_of_cell? w _ hw182_0)).trans hw182_0), ((HB.out.cell (World.block_lt_of_cell? w _ hw182_1)).trans hw182_1), ((HB.out.cell (World.block_lt_of_cell? w _ hw182_2)).trans hw182_2), ((HB.out.cell (World.block_lt_of_cell? w _ hw182_3)).trans hw182_3)⟩ (fun hHeld => ?_); refine with_tabW pollardref13_Apply.tab15 pollardref13_Apply.bits15 (fun HT_ HW_ => ?_)
            generalize wr.drew = w49 at HO_177001 HO_180001 BK176 BK177 BK179 HB hx182_0 hx182_1 hx182_2 hx182_3 hHeld ⊢
            refine pure_ (i := 1) (N := some 48) (v := ?_) (a' := ?_) #[false, true, false, false, false, false, false, false] rfl rfl (any_of HT_.out (by kernel_rfl)) (fun _ _ _ h => h) (Or.inl ⟨by rfl, ?_⟩) ?_ ?_
            rotate_left
            · intro w'
              go_simp
              with_reducible rfl
            rotate_left
            · simp only [Act.put, List.setIfInBounds_toArray, List.set_cons_zero, List.set_cons_succ, i64_w, i32_w]
              rfl
            refine pure_ (i := 2) (N := some 49) (v := ?_) (a' := ?_) #[false, true, true, false, false, false, false, false] rfl rfl (any_of HT_.out (by kernel_rfl)) (fun _ _ _ h => h) (Or.inl ⟨by rfl, ?_⟩) ?_ ?_
            rotate_left
            · intro w'
              go_simp
              with_reducible rfl
            rotate_left
            · simp only [Act.put, List.setIfInBounds_toArray, List.set_cons_zero, List.set_cons_succ, i64_w, i32_w]
              rfl
            refine pure_ (i := 3) (N := some 50) (v := ?_) (a' := ?_) #[false, true, true, true, false, false, false, false] rfl rfl (any_of HT_.out (by kernel_rfl)) (fun _ _ _ h => h) (Or.inl ⟨by rfl, ?_⟩) ?_ ?_
            rotate_left
            · intro w'
              go_simp
              with_reducible rfl
            rotate_left
            · simp only [Act.put, List.setIfInBounds_toArray, List.set_cons_zero, List.set_cons_succ, i64_w, i32_w]
              rfl
            refine pure_ (i := 5) (N := some 52) (v := ?_) (a' := ?_) #[false, true, true, true, false, true, false, false] rfl rfl (any_of HT_.out (by kernel_rfl)) (fun _ _ _ h => h) (Or.inl ⟨by rfl, ?_⟩) ?_ ?_
            rotate_left
            · intro w'
              go_simp
              with_reducible rfl
            rotate_left
            · simp only [Act.put, List.setIfInBounds_toArray, List.set_cons_zero, List.set_cons_succ, i64_w, i32_w]
              rfl
            refine take_ (i := 0) (N := some 47) (v := ?_) (a' := ?_) #[true, true, true, true, false, true, false, false] rfl rfl (take_ofW HT_.out HW_.out (by kernel_rfl)) (fun _ _ _ h => h) (Or.inl ⟨by rfl, ?_⟩) hHeld ?_ ?_
            rotate_left
            · rintro w' ⟨s0, s1, s2, s3, s4, s5⟩
              go_simp
              with_reducible rfl
            rotate_left
            · simp only [Act.put, List.setIfInBounds_toArray, List.set_cons_zero, List.set_cons_succ, i64_w, i32_w]
              rfl
            refine take_ (i := 4) (N := some 51) (v := ?_) (a' := ?_) #[true, true, true, true, true, true, false, false] rfl rfl (take_ofW HT_.out HW_.out (by kernel_rfl)) (fun _ _ _ h => h) (Or.inl ⟨by rfl, ?_⟩) hHeld ?_ ?_
            rotate_left
            · rintro w' ⟨s0, s1, s2, s3, s4, s5⟩
              go_simp
              with_reducible rfl
            rotate_left
            · simp only [Act.put, List.setIfInBounds_toArray, List.set_cons_zero, List.set_cons_succ, i64_w, i32_w]
              rfl
            refine one_ (i := 6) (N := some 53) #[true, true, true, true, true, true, true, false] rfl rfl (one_of HT_.out (by kernel_rfl)) (by decide) (fun K hK => ?_)
            refine goes_ Try.func28 (by kernel_rfl) rfl #[.agg #[.string a0_0, .slice A0_1 l0_1.length c0_1], .agg #[.string ((rd_T35 l1 x10_1).f0), .string ((rd_T35 l1 x10_1).f1), .string ((rd_T35 l1 x10_1).f2), .bool ((rd_T35 l1 x10_1).f3)], .slice A2 l2.length c2] (by rfl) rfl rfl (by (try simp only [List.map_toArray, List.map_cons, List.map_nil]); first | done | rfl | (simp only [List.length_drop, List.length_take]; rfl)) ?_
            with_reducible refine (pollardref13_why.calls k2 a0_0 _ _ l0_1 ((rd_T35 l1 x10_1).f0) ((rd_T35 l1 x10_1).f1) ((rd_T35 l1 x10_1).f2) ((rd_T35 l1 x10_1).f3) _ _ l2 t183 _ ?side1 ?side2 ?side3 ?side4 A38.out).mono ?_
            (case side1 => repeat (first | exact (Kd.V_reads' HO_177001.out).2.2 | (with_reducible refine Kd.C_alloc ?_ _) | (with_reducible refine Kd.C_drewN ?_ _) | (with_reducible refine Kd.C_drew ?_)))
            (case side2 => exact (Kd.V_reads' HO_177001.out).2.1)
            (case side3 => repeat (first | exact (Kd.C_below HR2.out HB.out) | (with_reducible refine Kd.C_alloc ?_ _) | (with_reducible refine Kd.C_drewN ?_ _) | (with_reducible refine Kd.C_drew ?_)))
            (case side4 => exact HC2.out)
            rintro e w50 ⟨rfl, hb⟩
            refine ⟨_, rfl, ?_⟩
            have n0_ := Aside0.mk (Kd.V_below (by (with_reducible repeat (first | apply Kd.V_alloc | apply Kd.V_drewN | apply Kd.V_drew)); exact HO_177001.out) hb)
            have n1_ := Aside0.mk (Kd.V_below (by (with_reducible repeat (first | apply Kd.V_alloc | apply Kd.V_drewN | apply Kd.V_drew)); exact HO_180001.out) hb)
            have n2_ := Aside0.mk (blk_below (g := gb176) (o := .cells #[.string a0_0, .slice A0_1 l0_1.length c0_1] 30 (0, 0)) (kz_ BK176.out) hb)
            have n3_ := Aside0.mk (blk_below (g := gb177) (o := .cells #[.string x178000_2, .slice none 0 0] 30 (0, 0)) (kz_ BK177.out) hb)
            have n4_ := Aside0.mk (blk_below (g := gb179) (o := .cells #[.string x180000_1, u180001] 30 (0, 0)) (kz_ BK179.out) hb)
            have n5_ := Aside0.mk (below_step (bs3_ GE176.out GE177.out GE179.out) hb)
            clear HO_177001
            clear HO_180001
            clear BK176
            clear BK177
            clear BK179
            clear HB
            have HO_177001 := n0_
            have HO_180001 := n1_
            have BK176 := n2_
            have BK177 := n3_
            have BK179 := n4_
            have HB := n5_
            clear n0_ n1_ n2_ n3_ n4_ n5_
            (try clear hb)
            (try clear hb2)
            (try clear hk)
            (try clear hi)
            refine hK.out _ _ ⟨(blk_cell BK176.out 0).trans rfl, (blk_cell BK176.out 1).trans rfl, ((HB.out.cell (World.block_lt_of_cell? w _ hw182_0)).trans hw182_0), ((HB.out.cell (World.block_lt_of_cell? w _ hw182_1)).trans hw182_1), ((HB.out.cell (World.block_lt_of_cell? w _ hw182_2)).trans hw182_2), ((HB.out.cell (World.block_lt_of_cell? w _ hw182_3)).trans hw182_3)⟩ (fun hHeld => ?_)
            clear hK K
            refine norm_ (a' := ?_) ?_ ?_
            rotate_left
            · show Act.put _ (some 53) _ = _
              simp only [Act.put, List.setIfInBounds_toArray, List.set_cons_zero, List.set_cons_succ, i64_w, i32_w]
              rfl
            refine pure_ (i := 7) (N := some 12) (v := ?_) (a' := ?_) #[true, true, true, true, true, true, true, true] rfl rfl (any_of HT_.out (by kernel_rfl)) (fun _ _ _ h => h) (Or.inl ⟨by rfl, ?_⟩) ?_ ?_
            rotate_left
            · intro w'
              go_simp
              with_reducible rfl
            rotate_left
            · simp only [Act.put, List.setIfInBounds_toArray, List.set_cons_zero, List.set_cons_succ, i64_w, i32_w]
              rfl
            refine done_ (done_of HT_.out (by kernel_rfl)) ?_
            have hnb51 := NB176_177.out
            have hnc51 := NB177_176.out
            have hnb52 := NB176_179.out
            have hnc52 := NB179_176.out
            have hcz53_0 : w50.cell? ⟨gb176, 0, none⟩ = some (.string a0_0) := (blk_cell BK176.out 0).trans rfl
            have hcz53_1 : w50.cell? ⟨gb176, 1, none⟩ = some (.slice A0_1 l0_1.length c0_1) := (blk_cell BK176.out 1).trans rfl
            have hfz53_0 := blk_frozen BK176.out 0
            have hfz53_1 := blk_frozen BK176.out 1
            have hnb54 := NB177_179.out
            have hnc54 := NB179_177.out
            have hcz55_0 : w50.cell? ⟨gb177, 0, none⟩ = some (.string x178000_2) := (blk_cell BK177.out 0).trans rfl
            have hcz55_1 : w50.cell? ⟨gb177, 1, none⟩ = some (.slice none 0 0) := (blk_cell BK177.out 1).trans rfl
            have hfz55_0 := blk_frozen BK177.out 0
            have hfz55_1 := blk_frozen BK177.out 1
            try go_wp2
            refine bodyPost_ret (results_ct rfl _ _ gb177 30 #[.string a0_0, .slice A0_1 l0_1.length c0_1] (0, 0) _ rfl (by (with_reducible repeat (first | refine blk_drewN ?_ _ | refine blk_drew ?_ | refine blk_alloc ?_ _)); refine blk_put (cs := #[.string a0_0, .slice none 0 0]) ?_ 1 _ rfl; (with_reducible repeat (first | refine blk_drewN ?_ _ | refine blk_drew ?_ | refine blk_alloc ?_ _)); refine blk_put (cs := #[.string x178000_2, .slice none 0 0]) ?_ 0 _ rfl; (with_reducible repeat (first | refine blk_drewN ?_ _ | refine blk_drew ?_ | refine blk_alloc ?_ _)); exact BK177.out) Try.underlying30 rfl (by kernel_rfl)) rfl ?_
            exact ⟨_, xz_, by (with_reducible repeat (first | apply Kd.V_alloc | apply Kd.V_drewN | apply Kd.V_drew)); exact Kd.V_mono (Kd.V_far (p := ⟨gb177, 1, none⟩) (Kd.V_far (p := ⟨gb177, 0, none⟩) (Kd.V_mono HO_177001.out (fun k_ hk => (⟨hk, hk.2.2.1⟩ : _ ∧ k_ ≠ gb177))) (fun _ hk => hk.2) (.string a0_0)) (fun _ hk => hk.2) (.slice A0_1 l0_1.length c0_1)) (fun _ hk => hk.1.1), bs3_ GE176.out GE177.out GE179.out⟩
          · rw [if_neg c37] at H
            exact absurd H (by simp)
         · rw [if_neg c36] at H
           exact absurd H (by simp)
     ·
      rw [if_neg c22] at H
      have c22b0 : decide (x10_1 < (l1.length : Int)) = false := decide_eq_false c22
      clear c22
      by_cases c56 : (x180001_1.length : Int) > 256
      ·
       rw [if_pos c56] at H
       have c56b0 : decide (256 < (x180001_1.length : Int)) = true := decide_eq_true c56
       have c56b1 : decide (256 < x180001_1.length) = true := decide_eq_true (by omega)
       clear c56
       simp only [Option.some.injEq, Prod.mk.injEq] at H
       obtain ⟨rfl, rfl, rfl⟩ := H
       have hnb57 := NB179_176.out
       have hnc57 := NB176_179.out
       have hnb58 := NB179_177.out
       have hnc58 := NB177_179.out
       have hcz59_0 : wr.cell? ⟨gb179, 0, none⟩ = some (.string x180000_1) := (blk_cell BK179.out 0).trans rfl
       have hcz59_1 : wr.cell? ⟨gb179, 1, none⟩ = some (u180001) := (blk_cell BK179.out 1).trans rfl
       have hfz59_0 := blk_frozen BK179.out 0
       have hfz59_1 := blk_frozen BK179.out 1
       obtain ⟨Ao60, co60, eo60⟩ := Kd.V_slice HO_180001.out
       subst eo60
       have hnb61 := NB176_177.out
       have hnc61 := NB177_176.out
       have hcz62_0 : wr.cell? ⟨gb176, 0, none⟩ = some (.string a0_0) := (blk_cell BK176.out 0).trans rfl
       have hcz62_1 : wr.cell? ⟨gb176, 1, none⟩ = some (.slice A0_1 l0_1.length c0_1) := (blk_cell BK176.out 1).trans rfl
       have hfz62_0 := blk_frozen BK176.out 0
       have hfz62_1 := blk_frozen BK176.out 1
       have hcz63_0 : wr.cell? ⟨gb177, 0, none⟩ = some (.string x178000_1) := (blk_cell BK177.out 0).trans rfl
       have hcz63_1 : wr.cell? ⟨gb177, 1, none⟩ = some (.slice none 0 0) := (blk_cell BK177.out 1).trans rfl
       have hfz63_0 := blk_frozen BK177.out 0
       have hfz63_1 := blk_frozen BK177.out 1
       go_wp2
       refine bodyPost_ret (results_ct rfl _ _ gb177 30 #[.string a0_0, .slice A0_1 l0_1.length c0_1] (0, 0) _ rfl (by (with_reducible repeat (first | refine blk_drewN ?_ _ | refine blk_drew ?_ | refine blk_alloc ?_ _)); refine blk_put (cs := #[.string a0_0, .slice none 0 0]) ?_ 1 _ rfl; (with_reducible repeat (first | refine blk_drewN ?_ _ | refine blk_drew ?_ | refine blk_alloc ?_ _)); refine blk_put (cs := #[.string x178000_1, .slice none 0 0]) ?_ 0 _ rfl; (with_reducible repeat (first | refine blk_drewN ?_ _ | refine blk_drew ?_ | refine blk_alloc ?_ _)); exact BK177.out) Try.underlying30 rfl (by kernel_rfl)) rfl ?_
       exact ⟨_, xz_, by (with_reducible repeat (first | apply Kd.V_alloc | apply Kd.V_drewN | apply Kd.V_drew)); exact Kd.V_mono (Kd.V_far (p := ⟨gb177, 1, none⟩) (Kd.V_far (p := ⟨gb177, 0, none⟩) (Kd.V_mono HO_177001.out (fun k_ hk => (⟨hk, hk.2.2.1⟩ : _ ∧ k_ ≠ gb177))) (fun _ hk => hk.2) (.string a0_0)) (fun _ hk => hk.2) (.slice A0_1 l0_1.length c0_1)) (fun _ hk => hk.1.1), bs3_ GE176.out GE177.out GE179.out⟩
      ·
       rw [if_neg c56] at H
       have c56b0 : decide (256 < (x180001_1.length : Int)) = false := decide_eq_false c56
       have c56b1 : decide (256 < x180001_1.length) = false := decide_eq_false (by omega)
       clear c56
       simp only [Option.some.injEq, Prod.mk.injEq] at H
       obtain ⟨rfl, rfl, rfl⟩ := H
       have hnb64 := NB179_176.out
       have hnc64 := NB176_179.out
       have hnb65 := NB179_177.out
       have hnc65 := NB177_179.out
       have hcz66_0 : wr.cell? ⟨gb179, 0, none⟩ = some (.string x180000_1) := (blk_cell BK179.out 0).trans rfl
       have hcz66_1 : wr.cell? ⟨gb179, 1, none⟩ = some (u180001) := (blk_cell BK179.out 1).trans rfl
       have hfz66_0 := blk_frozen BK179.out 0
       have hfz66_1 := blk_frozen BK179.out 1
       obtain ⟨Ao67, co67, eo67⟩ := Kd.V_slice HO_180001.out
       subst eo67
       have hnb68 := NB177_176.out
       have hnc68 := NB176_177.out
       have hcz69_0 : wr.cell? ⟨gb177, 0, none⟩ = some (.string x178000_1) := (blk_cell BK177.out 0).trans rfl
       have hcz69_1 : wr.cell? ⟨gb177, 1, none⟩ = some (.slice none 0 0) := (blk_cell BK177.out 1).trans rfl
       have hfz69_0 := blk_frozen BK177.out 0
       have hfz69_1 := blk_frozen BK177.out 1
       go_wp2
       refine bodyPost_ret (results_ct rfl _ _ gb177 30 #[.string x180000_1, .slice Ao67 x180001_1.length co67] (0, 0) _ rfl (by (with_reducible repeat (first | refine blk_drewN ?_ _ | refine blk_drew ?_ | refine blk_alloc ?_ _)); refine blk_put (cs := #[.string x180000_1, .slice none 0 0]) ?_ 1 _ rfl; (with_reducible repeat (first | refine blk_drewN ?_ _ | refine blk_drew ?_ | refine blk_alloc ?_ _)); refine blk_put (cs := #[.string x178000_1, .slice none 0 0]) ?_ 0 _ rfl; (with_reducible repeat (first | refine blk_drewN ?_ _ | refine blk_drew ?_ | refine blk_alloc ?_ _)); exact BK177.out) Try.underlying30 rfl (by kernel_rfl)) rfl ?_
       exact ⟨_, xz_, by (with_reducible repeat (first | apply Kd.V_alloc | apply Kd.V_drewN | apply Kd.V_drew)); exact Kd.V_mono (Kd.V_far (p := ⟨gb177, 1, none⟩) (Kd.V_far (p := ⟨gb177, 0, none⟩) (Kd.V_mono HO_180001.out (fun k_ hk => (⟨hk, hk.2.2.1⟩ : _ ∧ k_ ≠ gb177))) (fun _ hk => hk.2) (.string x180000_1)) (fun _ hk => hk.2) (.slice Ao67 x180001_1.length co67)) (fun _ hk => hk.1.1), bs3_ GE176.out GE177.out GE179.out⟩
  · rw [if_neg c11] at H
    have c11b0 : (t178 == 0) = false := beq_eq_false_iff_ne.mpr c11
    have c11b1 : (t178 != 0) = true := bne_iff_ne.mpr c11
    simp only [Option.some.injEq, Prod.mk.injEq] at H
    obtain ⟨rfl, rfl, rfl⟩ := H
    go_enter Try.func11, Try.ntmps11
    go_wp2_with (first | ((with_reducible refine gate_dst (N := 3) rfl ?_); refine box_event ?hg (N := 3) ?hd (cs := #[.string a0_0, .slice A0_1 l0_1.length c0_1]) (t := 30) ?hr ?_; (case hd => rfl); (case hg => rfl); (case hr => first | (go_simp; done) | (go_simp; rfl)); intro gb176 hg w70 hbox hb; have n0_ := Aside0.mk (Kd.V_below (Kd.V_elderB (by (with_reducible repeat (first | apply Kd.V_alloc | apply Kd.V_drewN | apply Kd.V_drew)); exact HO0_1.out) gb176 (Nat.le_of_eq hg.symm)) hb); have n1_ := Aside0.mk (below_step bz_ hb); have n2_ := Aside0.mk (hbox); have n3_ := Aside0.mk ((by rw [hg]; exact (below_size bz_) : w.heap.size ≤ gb176)); have n4_ := Aside0.mk ((by rw [hg]; exact (below_size bz_) : w.heap.size ≤ gb176)); clear HO0_1; clear HB; have HO0_1 := n0_; have HB := n1_; have BK176 := n2_; have GW176 := n3_; have GE176 := n4_; clear n0_ n1_ n2_ n3_ n4_; clear hb hbox hg) | ((with_reducible refine gate_dst (N := 6) rfl ?_); refine box_event ?hg (N := 6) ?hd (cs := #[.string (⟨#[]⟩ : ByteArray), .slice none 0 0]) (t := 30) ?hr ?_; (case hd => rfl); (case hg => rfl); (case hr => first | (go_simp; done) | (go_simp; rfl)); intro gb177 hg w71 hbox hb; have n0_ := Aside0.mk (Kd.V_below (Kd.V_elderB (by (with_reducible repeat (first | apply Kd.V_alloc | apply Kd.V_drewN | apply Kd.V_drew)); exact HO0_1.out) gb177 (Nat.le_of_eq hg.symm)) hb); have n1_ := Aside0.mk (blk_below (g := gb176) (o := .cells #[.string a0_0, .slice A0_1 l0_1.length c0_1] 30 (0, 0)) (kz_ BK176.out) hb); have n2_ := Aside0.mk (below_step (bs1_ GE176.out) hb); have n3_ := Aside0.mk (hbox); have n4_ := Aside0.mk ((by rw [hg]; exact (below_size (bs1_ GE176.out)) : w.heap.size ≤ gb177)); have n5_ := Aside0.mk ((by rw [hg]; exact (below_size (bs1_ GE176.out)) : w.heap.size ≤ gb177)); have n6_ := Aside0.mk ((by rw [hg]; exact Nat.ne_of_lt (blk_lt (g := gb176) (o := .cells #[.string a0_0, .slice A0_1 l0_1.length c0_1] 30 (0, 0)) (kz_ BK176.out)) : gb176 ≠ gb177)); have n7_ := Aside0.mk ((by rw [hg]; exact Nat.ne_of_gt (blk_lt (g := gb176) (o := .cells #[.string a0_0, .slice A0_1 l0_1.length c0_1] 30 (0, 0)) (kz_ BK176.out)) : gb177 ≠ gb176)); clear HO0_1; clear BK176; clear HB; have HO0_1 := n0_; have BK176 := n1_; have HB := n2_; have BK177 := n3_; have GW177 := n4_; have GE177 := n5_; have NB176_177 := n6_; have NB177_176 := n7_; clear n0_ n1_ n2_ n3_ n4_ n5_ n6_ n7_; clear hb hbox hg; have hnb72 := NB176_177.out; have hnc72 := NB177_176.out; have hcz73_0 : w71.cell? ⟨gb176, 0, none⟩ = some (.string a0_0) := (blk_cell BK176.out 0).trans rfl; have hcz73_1 : w71.cell? ⟨gb176, 1, none⟩ = some (.slice A0_1 l0_1.length c0_1) := (blk_cell BK176.out 1).trans rfl; have hfz73_0 := blk_frozen BK176.out 0; have hfz73_1 := blk_frozen BK176.out 1) | ((with_reducible refine gate_callee (f := 16) rfl ?_); refine goesM_ (some 18) Try.func16 #[.agg #[.string a0_0, .slice A0_1 l0_1.length c0_1]] ?_; (with_reducible refine (pollardref13_Check.calls k a0_0 _ _ l0_1 t178 _ ?side1 ?side2 A10.out).mono ?_); (case side1 => repeat (first | exact (Kd.V_reads' HO0_1.out).2.2 | (with_reducible refine Kd.C_alloc ?_ _) | (with_reducible refine Kd.C_drewN ?_ _) | (with_reducible refine Kd.C_drew ?_))); (case side2 => exact (Kd.V_reads' HO0_1.out).2.1); rintro e w74 ⟨rfl, hb⟩; refine ⟨_, rfl, ?_⟩; have n0_ := Aside0.mk (Kd.V_below (by (with_reducible repeat (first | apply Kd.V_alloc | apply Kd.V_drewN | apply Kd.V_drew)); exact HO0_1.out) hb); have n1_ := Aside0.mk (blk_below (g := gb176) (o := .cells #[.string a0_0, .slice A0_1 l0_1.length c0_1] 30 (0, 0)) (kz_ BK176.out) hb); have n2_ := Aside0.mk (blk_below (g := gb177) (o := .cells #[.string (⟨#[]⟩ : ByteArray), .slice none 0 0] 30 (0, 0)) (kz_ BK177.out) hb); have n3_ := Aside0.mk (below_step (bs2_ GE176.out GE177.out) hb); clear HO0_1; clear BK176; clear BK177; clear HB; have HO0_1 := n0_; have BK176 := n1_; have BK177 := n2_; have HB := n3_; clear n0_ n1_ n2_ n3_; (try clear hb); (try clear hb2); (try clear hk); (try clear hi); have hcz75_0 : w74.cell? ⟨gb176, 0, none⟩ = some (.string a0_0) := (blk_cell BK176.out 0).trans rfl; have hcz75_1 : w74.cell? ⟨gb176, 1, none⟩ = some (.slice A0_1 l0_1.length c0_1) := (blk_cell BK176.out 1).trans rfl; have hfz75_0 := blk_frozen BK176.out 0; have hfz75_1 := blk_frozen BK176.out 1; have hcz76_0 : w74.cell? ⟨gb177, 0, none⟩ = some (.string (⟨#[]⟩ : ByteArray)) := (blk_cell BK177.out 0).trans rfl; have hcz76_1 : w74.cell? ⟨gb177, 1, none⟩ = some (.slice none 0 0) := (blk_cell BK177.out 1).trans rfl; have hfz76_0 := blk_frozen BK177.out 0; have hfz76_1 := blk_frozen BK177.out 1))
    refine bodyPost_ret (results_ct rfl _ _ gb177 30 #[.string a0_0, .slice A0_1 l0_1.length c0_1] (0, 0) _ rfl (by (with_reducible repeat (first | refine blk_drewN ?_ _ | refine blk_drew ?_ | refine blk_alloc ?_ _)); refine blk_put (cs := #[.string a0_0, .slice none 0 0]) ?_ 1 _ rfl; (with_reducible repeat (first | refine blk_drewN ?_ _ | refine blk_drew ?_ | refine blk_alloc ?_ _)); refine blk_put (cs := #[.string (⟨#[]⟩ : ByteArray), .slice none 0 0]) ?_ 0 _ rfl; (with_reducible repeat (first | refine blk_drewN ?_ _ | refine blk_drew ?_ | refine blk_alloc ?_ _)); exact BK177.out) Try.underlying30 rfl (by kernel_rfl)) rfl ?_
    exact ⟨_, xz_, by (with_reducible repeat (first | apply Kd.V_alloc | apply Kd.V_drewN | apply Kd.V_drew)); exact Kd.V_mono (Kd.V_far (p := ⟨gb177, 1, none⟩) (Kd.V_far (p := ⟨gb177, 0, none⟩) (Kd.V_mono HO0_1.out (fun k_ hk => (⟨hk, hk.2⟩ : _ ∧ k_ ≠ gb177))) (fun _ hk => hk.2) (.string a0_0)) (fun _ hk => hk.2) (.slice A0_1 l0_1.length c0_1)) (fun _ hk => hk.1.1.1), bs2_ GE176.out GE177.out⟩

end Go.Proofs.Ytgepbdkbleapaaa.M
