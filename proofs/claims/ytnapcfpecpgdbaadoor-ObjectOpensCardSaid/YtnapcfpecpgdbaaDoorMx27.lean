/- The program's functions as plain functions, and that each call comes to what these tell; written by a program of this session, some contracts by hand. Conditions: none. -/
import Derived.Test.YtnapcfpecpgdbaaDoorMx0
import Derived.Test.YtnapcfpecpgdbaaDoorMx6
import Derived.Test.YtnapcfpecpgdbaaDoorMx21
import Derived.Test.YtnapcfpecpgdbaaDoorMx23
import Derived.Test.YtnapcfpecpgdbaaDoorMx26
namespace Go.Proofs.YtnapcfpecpgdbaaDoor.M
open Go.RowKit Go.Proofs.YtnapcfpecpgdbaaDoorW.PrintWords Go.Proofs.YtnapcfpecpgdbaaDoorW.PrintLast Go.Proofs.YtnapcfpecpgdbaaDoorW.PrintMore
attribute [local go_sem] max2_int min2_int max_two min_two max_three min_three max_four min_four   -- for this text's walks alone
set_option linter.unusedVariables false
set_option linter.unusedSimpArgs false

/-! ### r7_Links: function 19 -/
mutual
def r7_Links.l0 : Nat → List (S55) → List (S86) → Int → Int → Option ((List (S55)) × Int)
 | 0, _, _, _, _ => none
 | k + 1, x7, x8, x9, x10 => if x10 < (x8.length : Int) then (if 0 ≤ x10 then (if ((rd_T86 x8 x10).f1) = 3 then (if x7.length < 5864062014805 then (r7_Links.l0 k (x7 ++ [(⟨2, (rd_T86 x8 x10).f2⟩ : S55)]) x8 x9 (wrap64 (x10 + 1))) else (none)) else (if x7.length < 5864062014805 then (r7_Links.l0 k (x7 ++ [(⟨1, (rd_T86 x8 x10).f2⟩ : S55)]) x8 x9 (wrap64 (x10 + 1))) else (none))) else (none)) else (some (x7, x9))
def r7_Links.l1 : Nat → List (S55) → Int → ByteArray → List ByteArray → ByteArray → Int → ByteArray → Option ((List (S55)) × Int)
 | 0, _, _, _, _, _, _, _ => none
 | k + 1, x7, x14, x380000, x380001, x380002, x380003, x380004 => if x14 < (x380001.length : Int) then (if 0 ≤ x14 then (if x7.length < 5864062014805 then (r7_Links.l1 k (x7 ++ [(⟨3, rdOf ByteArray.empty x380001 x14⟩ : S55)]) (wrap64 (x14 + 1)) x380000 x380001 x380002 x380003 x380004) else (none)) else (none)) else (some (x7, 0))
end
def r7_Links.f (k : Nat) (a0 : ByteArray) : Option ((List (S55)) × Int) := (r7_Open.f k a0).bind fun bt352 => ((some (([] : List (S55)) : List (S55))).bind fun y355 => (if bt352.2.2 = 0 then (if bt352.1 = 2 then ((r6_Get.f k bt352.2.1).bind fun bt358 => (r7_Links.l0 k y355 bt358.1 bt358.2 0)) else (if bt352.1 = 3 then ((r7_GetCommit.f k bt352.2.1).bind fun bt371 => (if bt371.2.2.2.2.2 = 0 then (if y355.length < 5864062014805 then (r7_Links.l1 k (y355 ++ [(⟨2, bt371.1⟩ : S55)]) 0 bt371.1 bt371.2.1 bt371.2.2.1 bt371.2.2.2.1 bt371.2.2.2.2.1) else (none)) else (some (([] : List (S55)), bt371.2.2.2.2.2)))) else (if bt352.1 = 4 then ((r7_GetTag.f k bt352.2.1).bind fun bt387 => (if bt387.2.2.2.2 = 0 then (if y355.length < 5864062014805 then (some ((y355 ++ [(⟨bt387.2.1, bt387.1⟩ : S55)]), 0)) else (none)) else (some (([] : List (S55)), bt387.2.2.2.2)))) else (some (y355, 0))))) else (some (([] : List (S55)), bt352.2.2))))
theorem r7_Links.mono_l : ∀ k, (∀ y0 y1 y2 y3, LeO (r7_Links.l0 k y0 y1 y2 y3) (r7_Links.l0 (k + 1) y0 y1 y2 y3)) ∧ (∀ y0 y1 y2 y3 y4 y5 y6, LeO (r7_Links.l1 k y0 y1 y2 y3 y4 y5 y6) (r7_Links.l1 (k + 1) y0 y1 y2 y3 y4 y5 y6))
 | 0 => ⟨fun _ _ _ _ r h => by simp [r7_Links.l0] at h, fun _ _ _ _ _ _ _ r h => by simp [r7_Links.l1] at h⟩
 | k + 1 => by
  obtain ⟨ih0, ih1⟩ := r7_Links.mono_l k
  refine ⟨?_, ?_⟩
  all_goals (intros; first | unfold r7_Links.l0 | unfold r7_Links.l1)
  all_goals repeat' with_reducible first | exact ih0 _ _ _ _ | exact ih1 _ _ _ _ _ _ _ | exact r6_Get.mono _ _ | exact r7_GetCommit.mono _ _ | exact r7_GetTag.mono _ _ | exact r7_Open.mono _ _ | exact LeO.refl _ | exact LeO.none _ | refine LeO.ite ?_ ?_ | refine LeO.bind ?_ (fun _ => ?_)
theorem r7_Links.mono : ∀ a0 k, LeO (r7_Links.f k a0) (r7_Links.f (k + 1) a0) := by
 intro a0 k
 obtain ⟨ih0, ih1⟩ := r7_Links.mono_l k
 unfold r7_Links.f
 repeat' with_reducible first | exact ih0 _ _ _ _ | exact ih1 _ _ _ _ _ _ _ | exact r6_Get.mono _ _ | exact r7_GetCommit.mono _ _ | exact r7_GetTag.mono _ _ | exact r7_Open.mono _ _ | exact LeO.refl _ | exact LeO.none _ | refine LeO.ite ?_ ?_ | refine LeO.bind ?_ (fun _ => ?_)
set_option maxHeartbeats 8000000 in
set_option maxRecDepth 100000 in
theorem r7_Links.calls (k : Nat) (a0 : ByteArray) (r1 : List (S55)) (r2 : Int) (w : World) (h : r7_Links.f k a0 = some (r1, r2)) :
 Calls Tryd.prog 19 #[.string a0] w fun e w' => ∃ v0_ : Value, e = .returned (.tuple #[v0_, .int .i64 r2]) ∧ Kd.R k55 55 w' w.heap.size (fun _ => True) v0_ r1 ∧ Below w.heap.size w w' := by
 have hu55 := Tryd.underlying55
 have hu30 := Tryd.underlying30
 have hu87 := Tryd.underlying87
 have HB := Aside0.mk (Below.refl w.heap.size w)
 have H : ((r7_Open.f k a0).bind fun bt352 => ((some (([] : List (S55)) : List (S55))).bind fun y355 => (if bt352.2.2 = 0 then (if bt352.1 = 2 then ((r6_Get.f k bt352.2.1).bind fun bt358 => (r7_Links.l0 k y355 bt358.1 bt358.2 0)) else (if bt352.1 = 3 then ((r7_GetCommit.f k bt352.2.1).bind fun bt371 => (if bt371.2.2.2.2.2 = 0 then (if y355.length < 5864062014805 then (r7_Links.l1 k (y355 ++ [(⟨2, bt371.1⟩ : S55)]) 0 bt371.1 bt371.2.1 bt371.2.2.1 bt371.2.2.2.1 bt371.2.2.2.2.1) else (none)) else (some (([] : List (S55)), bt371.2.2.2.2.2)))) else (if bt352.1 = 4 then ((r7_GetTag.f k bt352.2.1).bind fun bt387 => (if bt387.2.2.2.2 = 0 then (if y355.length < 5864062014805 then (some ((y355 ++ [(⟨bt387.2.1, bt387.1⟩ : S55)]), 0)) else (none)) else (some (([] : List (S55)), bt387.2.2.2.2)))) else (some (y355, 0))))) else (some (([] : List (S55)), bt352.2.2))))) = some (r1, r2) := h
 clear h
 replace H := Option.bind_eq_some_iff.mp H
 obtain ⟨⟨t352, t353, t354⟩, A20, H⟩ := H
 try dsimp only at H
 have A2 := Aside0.mk A20
 clear A20
 obtain ⟨y355, hy355⟩ : ∃ y_ : List (S55), y_ = (([] : List (S55))) := ⟨_, rfl⟩
 replace H : (if t354 = 0 then (if t352 = 2 then ((r6_Get.f k t353).bind fun bt358 => (r7_Links.l0 k y355 bt358.1 bt358.2 0)) else (if t352 = 3 then ((r7_GetCommit.f k t353).bind fun bt371 => (if bt371.2.2.2.2.2 = 0 then (if y355.length < 5864062014805 then (r7_Links.l1 k (y355 ++ [(⟨2, bt371.1⟩ : S55)]) 0 bt371.1 bt371.2.1 bt371.2.2.1 bt371.2.2.2.1 bt371.2.2.2.2.1) else (none)) else (some (([] : List (S55)), bt371.2.2.2.2.2)))) else (if t352 = 4 then ((r7_GetTag.f k t353).bind fun bt387 => (if bt387.2.2.2.2 = 0 then (if y355.length < 5864062014805 then (some ((y355 ++ [(⟨bt387.2.1, bt387.1⟩ : S55)]), 0)) else (none)) else (some (([] : List (S55)), bt387.2.2.2.2)))) else (some (y355, 0))))) else (some (([] : List (S55)), t354))) = some (r1, r2) := by first | (rw [hy355]; with_reducible exact H) | (have H2_ := (Option.bind_some _ _).symm.trans H; rw [hy355]; with_reducible exact H2_) | (have H2_ := (Option.bind_some _ _).symm.trans H; with_reducible exact H2_) | with_reducible exact H | (rw [hy355]; exact H) | exact H
 have Ny355 := Aside0.mk hy355
 clear hy355
 by_cases c3 : t354 = 0
 ·
  rw [if_pos c3] at H
  have c3b0 : (t354 == 0) = true := beq_iff_eq.mpr c3
  have c3b1 : (t354 != 0) = false := bne_eq_false_iff_eq.mpr c3
  clear c3
  by_cases c4 : t352 = 2
  ·
   rw [if_pos c4] at H
   have c4b0 : (t352 == 2) = true := beq_iff_eq.mpr c4
   have c4b1 : (t352 != 2) = false := bne_eq_false_iff_eq.mpr c4
   clear c4
   replace H := Option.bind_eq_some_iff.mp H
   obtain ⟨⟨t358, t359⟩, A50, H⟩ := H
   try dsimp only at H
   have A5 := Aside0.mk A50
   clear A50
   have H' := Aside0.mk H
   clear H
   go_enter Tryd.func19, Tryd.ntmps19
   go_wp2_with (first | ((with_reducible refine gate_callee (f := 17) rfl ?_); refine goesM_ (some 19) Tryd.func17 #[.string a0] ?_; (with_reducible refine (r7_Open.calls k a0 t352 t353 t354 _ A2.out).mono ?_); rintro e w6 ⟨rfl, hb⟩; refine ⟨_, rfl, ?_⟩; have n0_ := Aside0.mk (below_step bz_ hb); clear HB; have HB := n0_; clear n0_; (try clear hb); (try clear hb2); (try clear hk); (try clear hi)) | ((with_reducible refine gate_dst (N := 23) rfl ?_); refine Kd.R_lit k55 _ 55 ?hg (N := 23) ?hd (xs := ([] : List (S55))) (inner := []) (ok := fun _ => True) (okp := fun _ => True) ?hr ?hp (fun _ hk => hk) trivial (Below.refl _ _) (Nat.le_refl _) (by simp) ?_; (case hd => rfl); (case hg => rfl); (case hr => first | (go_simp; done) | (go_simp; rfl)); (case hp => exact (Reps.none _ _)); intro v356 w7 ho8 hb hg_ hnew_; clear hg_ hnew_; (first | rw [← Ny355.out] at ho8 | (simp only [Int.reduceToNat] at ho8; rw [← Ny355.out] at ho8)); have n0_ := Aside0.mk (Kd.R_lower ho8 (below_size bz_)); have n1_ := Aside0.mk (below_step bz_ hb); clear HB; have HO357 := n0_; have HB := n1_; clear n0_ n1_; clear hb ho8) | ((with_reducible refine gate_callee (f := 47) rfl ?_); refine goesM_ (some 33) Tryd.func47 #[.string t353] ?_; (with_reducible refine (r6_Get.calls k t353 t358 t359 _ A5.out).mono ?_); rintro e w9 ⟨v360, rfl, ho0, hb⟩; refine ⟨_, rfl, ?_⟩; have n0_ := Aside0.mk (Kd.R_below (rz_ HO357.out) hb); have n1_ := Aside0.mk (Kd.R_lower ho0 (below_size bz_)); have n2_ := Aside0.mk (below_step bz_ hb); clear HO357; clear HB; have HO357 := n0_; have HO361 := n1_; have HB := n2_; clear n0_ n1_ n2_; (try clear hb); (try clear hb2); (try clear hk); (try clear hi); (try clear ho0)))
   go_loopg [7, 10] k (fun kq v7 v10 w' => ∃ (x7_1 : List (S55)) (x10_1 : Int), v10 = .int .i64 x10_1 ∧ Aside0 (r7_Links.l0 kq x7_1 t358 t359 x10_1 = some (r1, r2)) ∧ Aside0 (kq ≤ k) ∧ Aside0 (Kd.R k55 55 w' w.heap.size (fun _ => True) v7 x7_1) ∧ Aside0 (Kd.R k86 86 w' w.heap.size (fun _ => True) v360 t358) ∧ Aside0 (Below w.heap.size w w'))
   case atStart => exact ⟨(y355), (0), ez_, H', ⟨Nat.le_refl _⟩, ⟨rz_ HO357.out⟩, ⟨rz_ HO361.out⟩, ⟨bz_⟩⟩
   case round =>
    clear H'
    try clear c1
    try clear p2
    try clear c3
    try clear c3b0
    try clear c3b1
    try clear c4
    try clear c4b0
    try clear c4b1
    obtain ⟨x7_1, x10_1, rfl, HA, HK1, HO_7, HO_8, HB⟩ := hrel
    cases gk with
    | zero => exact absurd HA.out (by simp [r7_Links.l0])
    | succ k1 =>
     have H := HA.out
     clear HA
     simp only [r7_Links.l0] at H
     by_cases c10 : x10_1 < (t358.length : Int)
     ·
      rw [if_pos c10] at H
      have c10b0 : decide (x10_1 < (t358.length : Int)) = true := decide_eq_true c10
      clear c10
      by_cases c11 : 0 ≤ x10_1
      ·
       rw [if_pos c11] at H
       have c11b0 : decide (0 ≤ x10_1) = true := decide_eq_true c11
       clear c11
       by_cases c12 : ((rd_T86 t358 x10_1).f1) = 3
       ·
        rw [if_pos c12] at H
        have c12b0 : (((rd_T86 t358 x10_1).f1) == 3) = true := beq_iff_eq.mpr c12
        have c12b1 : (((rd_T86 t358 x10_1).f1) != 3) = false := bne_eq_false_iff_eq.mpr c12
        clear c12
        by_cases c13 : x7_1.length < 5864062014805
        ·
         rw [if_pos c13] at H
         have LMc13 := Aside0.mk c13
         clear c13
         obtain ⟨y365, hy365⟩ : ∃ y_ : List (S55), y_ = (x7_1 ++ [(⟨2, (rd_T86 t358 x10_1).f2⟩ : S55)]) := ⟨_, rfl⟩
         replace H : (r7_Links.l0 k1 y365 t358 t359 (wrap64 (x10_1 + 1))) = some (r1, r2) := by first | (rw [hy365]; with_reducible exact H) | (have H2_ := (Option.bind_some _ _).symm.trans H; rw [hy365]; with_reducible exact H2_) | (have H2_ := (Option.bind_some _ _).symm.trans H; with_reducible exact H2_) | with_reducible exact H | (rw [hy365]; exact H) | exact H
         have Ny365 := Aside0.mk hy365
         clear hy365
         have H' := Aside0.mk H
         clear H
         obtain ⟨Ao14, co14, eo14⟩ := Kd.R_slice HO_8.out
         subst eo14
         have p362 : 0 ≤ (x10_1 : Int) := of_decide_eq_true az_
         have q362 : x10_1 < (t358.length : Int) := of_decide_eq_true az_
         obtain ⟨ad362, e362, hx362_0, hx362_1, hx362_2⟩ := at_T86 (Kd.R_reads' HO_8.out).2.2 x10_1 p362 q362
         cases e362
         replace p362 := eq_true p362
         replace q362 := eq_true q362
         go_wp2_with (first | ((with_reducible refine gate_dst (N := 11) rfl ?_); refine box_event ?hg (N := 11) ?hd (cs := #[.int .i64 0, .string (⟨#[]⟩ : ByteArray)]) (t := 55) ?hr ?_; (case hd => rfl); (case hg => rfl); (case hr => first | (go_simp; done) | (go_simp; rfl)); intro gb363 hg w15 hbox hb; have n0_ := Aside0.mk (Kd.R_below (Kd.R_elderB (rz_ HO_7.out) gb363 (Nat.le_of_eq hg.symm)) hb); have n1_ := Aside0.mk (Kd.R_below (rz_ HO_8.out) hb); have n2_ := Aside0.mk (below_step bz_ hb); have n3_ := Aside0.mk (hbox); have n4_ := Aside0.mk ((by rw [hg]; exact (below_size bz_) : w.heap.size ≤ gb363)); have n5_ := Aside0.mk ((by rw [hg]; exact (below_size bz_) : w.heap.size ≤ gb363)); clear HO_7; clear HO_8; clear HB; have HO_7 := n0_; have HO_8 := n1_; have HB := n2_; have BK363 := n3_; have GW363 := n4_; have GE363 := n5_; clear n0_ n1_ n2_ n3_ n4_ n5_; clear hb hbox hg; have hcz16_0 : w15.cell? ⟨gb363, 0, none⟩ = some (.int .i64 0) := (blk_cell BK363.out 0).trans rfl; have hcz16_1 : w15.cell? ⟨gb363, 1, none⟩ = some (.string (⟨#[]⟩ : ByteArray)) := (blk_cell BK363.out 1).trans rfl; have hfz16_0 := blk_frozen BK363.out 0; have hfz16_1 := blk_frozen BK363.out 1; have p364 : 0 ≤ (x10_1 : Int) := of_decide_eq_true az_; have q364 : x10_1 < (t358.length : Int) := of_decide_eq_true az_; obtain ⟨ad364, e364, hx364_0, hx364_1, hx364_2⟩ := at_T86 (Kd.R_reads' HO_8.out).2.2 x10_1 p364 q364; obtain rfl : ad362 = ad364 := (by injection e364); have hn364_0 : ad362.block ≠ gb363 := Kd.own_blk (Kd.R_ne HO_8.out BK363.out (by decide)); have hn364_1 : ad362.block ≠ gb363 := Kd.own_blk (Kd.R_ne HO_8.out BK363.out (by decide)); replace hx364_0 := (cell_far (p := ⟨gb363, 0, none⟩) (by first | (rw [add_block]; exact hn364_0) | (show (Addr.add _ _).block ≠ _; rw [add_block]; exact hn364_0) | exact hn364_0) (.int .i64 1)).trans hx364_0; replace hx364_1 := (cell_far (p := ⟨gb363, 0, none⟩) (by first | (rw [add_block]; exact hn364_0) | (show (Addr.add _ _).block ≠ _; rw [add_block]; exact hn364_0) | exact hn364_0) (.int .i64 1)).trans hx364_1; replace hx364_2 := (cell_far (p := ⟨gb363, 0, none⟩) (by first | (rw [add_block]; exact hn364_0) | (show (Addr.add _ _).block ≠ _; rw [add_block]; exact hn364_0) | exact hn364_0) (.int .i64 1)).trans hx364_2; replace hx364_0 := (cell_far (p := ⟨gb363, 1, none⟩) (by first | (rw [add_block]; exact hn364_1) | (show (Addr.add _ _).block ≠ _; rw [add_block]; exact hn364_1) | exact hn364_1) (.string ((rd_T86 t358 x10_1).f2))).trans hx364_0; replace hx364_1 := (cell_far (p := ⟨gb363, 1, none⟩) (by first | (rw [add_block]; exact hn364_1) | (show (Addr.add _ _).block ≠ _; rw [add_block]; exact hn364_1) | exact hn364_1) (.string ((rd_T86 t358 x10_1).f2))).trans hx364_1; replace hx364_2 := (cell_far (p := ⟨gb363, 1, none⟩) (by first | (rw [add_block]; exact hn364_1) | (show (Addr.add _ _).block ≠ _; rw [add_block]; exact hn364_1) | exact hn364_1) (.string ((rd_T86 t358 x10_1).f2))).trans hx364_2; clear hn364_0; clear hn364_1; replace p364 := eq_true p364; replace q364 := eq_true q364) | ((with_reducible refine gate_builtin (b := .append) (xs := #[.tmp 55, .tmp 57]) rfl ?_); at_builtin; refine Kd.R_append k55 (w0 := w) w.heap.size rfl (.tmp 55) (.tmp 57) 51 55 (.agg #[(.int .i64 0), (.string ⟨#[]⟩)]) 24 rfl Tryd.underlying51 info55 rfl (by decide) (by omega) u7 x7_1 (⟨2, (rd_T86 t358 x10_1).f2⟩ : S55) [.int .i64 2, .string ((rd_T86 t358 x10_1).f2)] (fun k_ => k_ ≠ gb363) (fun _ => False) rfl (by first | (go_simp; done) | (go_simp; rfl)) ?aP (fun _ hk => hk.elim) ?aF ?aO ?aB ?aS ?aL ?_; (case aP => exact k55_mkM _ _ _ (⟨2, (rd_T86 t358 x10_1).f2⟩ : S55)); (case aB => exact (bs1_ GE363.out)); (case aF => exact (fun k_ hk => Kd.freshB (g := gb363) (o := .cells #[.int .i64 2, .string ((rd_T86 t358 x10_1).f2)] 55 (0, 0)) (by (with_reducible repeat (first | refine blk_drewN ?_ _ | refine blk_drew ?_ | refine blk_alloc ?_ _)); refine blk_put (cs := #[.int .i64 1, .string ((rd_T86 t358 x10_1).f2)]) ?_ 0 _ rfl; (with_reducible repeat (first | refine blk_drewN ?_ _ | refine blk_drew ?_ | refine blk_alloc ?_ _)); refine blk_put (cs := #[.int .i64 1, .string (⟨#[]⟩ : ByteArray)]) ?_ 1 _ rfl; (with_reducible repeat (first | refine blk_drewN ?_ _ | refine blk_drew ?_ | refine blk_alloc ?_ _)); refine blk_put (cs := #[.int .i64 0, .string (⟨#[]⟩ : ByteArray)]) ?_ 0 _ rfl; (with_reducible repeat (first | refine blk_drewN ?_ _ | refine blk_drew ?_ | refine blk_alloc ?_ _)); exact BK363.out) k_ hk)); (case aO => exact (rz_ (Kd.R_mono (Kd.R_far (p := ⟨gb363, 0, none⟩) (Kd.R_far (p := ⟨gb363, 1, none⟩) (Kd.R_far (p := ⟨gb363, 0, none⟩) (Kd.R_mono HO_7.out (fun k_ hk => (⟨hk, hk.2⟩ : _ ∧ k_ ≠ gb363))) (fun _ hk => hk.2) (.int .i64 1)) (fun _ hk => hk.2) (.string ((rd_T86 t358 x10_1).f2))) (fun _ hk => hk.2) (.int .i64 2)) (fun _ hk => hk.1.2)))); (case aS => exact (below_size (bs1_ GE363.out))); (case aL => have := LMc13.out; omega); intro v366 w17 ho hb hg hat; rw [← Ny365.out] at ho; have n0_ := Aside0.mk (Kd.R_over' (rz_ ((Kd.R_mono (Kd.R_far (p := ⟨gb363, 0, none⟩) (Kd.R_far (p := ⟨gb363, 1, none⟩) (Kd.R_far (p := ⟨gb363, 0, none⟩) (Kd.R_types HO_8.out BK363.out (by decide)) (fun _ hk => hk.2) (.int .i64 1)) (fun _ hk => hk.2) (.string ((rd_T86 t358 x10_1).f2))) (fun _ hk => hk.2) (.int .i64 2)) (fun _ h_ => h_.1)))) (Kd.R_typed (rz_ ((Kd.R_mono (Kd.R_far (p := ⟨gb363, 0, none⟩) (Kd.R_far (p := ⟨gb363, 1, none⟩) (Kd.R_far (p := ⟨gb363, 0, none⟩) (Kd.R_mono HO_7.out (fun k_ hk => (⟨hk, hk.2⟩ : _ ∧ k_ ≠ gb363))) (fun _ hk => hk.2) (.int .i64 1)) (fun _ hk => hk.2) (.string ((rd_T86 t358 x10_1).f2))) (fun _ hk => hk.2) (.int .i64 2)) (fun _ h_ => h_.1))))) (by decide) hg); have n1_ := Aside0.mk (blk_grown (g := gb363) (o := .cells #[.int .i64 2, .string ((rd_T86 t358 x10_1).f2)] 55 (0, 0)) (by (with_reducible repeat (first | refine blk_drewN ?_ _ | refine blk_drew ?_ | refine blk_alloc ?_ _)); refine blk_put (cs := #[.int .i64 1, .string ((rd_T86 t358 x10_1).f2)]) ?_ 0 _ rfl; (with_reducible repeat (first | refine blk_drewN ?_ _ | refine blk_drew ?_ | refine blk_alloc ?_ _)); refine blk_put (cs := #[.int .i64 1, .string (⟨#[]⟩ : ByteArray)]) ?_ 1 _ rfl; (with_reducible repeat (first | refine blk_drewN ?_ _ | refine blk_drew ?_ | refine blk_alloc ?_ _)); refine blk_put (cs := #[.int .i64 0, .string (⟨#[]⟩ : ByteArray)]) ?_ 0 _ rfl; (with_reducible repeat (first | refine blk_drewN ?_ _ | refine blk_drew ?_ | refine blk_alloc ?_ _)); exact BK363.out) hg (Kd.R_away HO_7.out (fun _ hk => hk.2))); have n2_ := Aside0.mk (hb); have n3_ := Aside0.mk (ho); clear HO_8; clear BK363; clear HB; clear HO_7; have HO_8 := n0_; have BK363 := n1_; have HB := n2_; have HO367 := n3_; clear n0_ n1_ n2_ n3_; clear ho hb hg hat))
         go_roundg k1
         case measure => have := HK1.out; omega
         case rel => exact ⟨(y365), (wrap64 (x10_1 + 1)), ez_, H', ⟨by have := HK1.out; omega⟩, ⟨rz_ (Kd.R_mono HO367.out (fun _ hk => trivial))⟩, ⟨rz_ HO_8.out⟩, ⟨bs1_ GE363.out⟩⟩
        · rw [if_neg c13] at H
          exact absurd H (by simp)
       ·
        rw [if_neg c12] at H
        have c12b0 : (((rd_T86 t358 x10_1).f1) == 3) = false := beq_eq_false_iff_ne.mpr c12
        have c12b1 : (((rd_T86 t358 x10_1).f1) != 3) = true := bne_iff_ne.mpr c12
        by_cases c18 : x7_1.length < 5864062014805
        ·
         rw [if_pos c18] at H
         have LMc18 := Aside0.mk c18
         clear c18
         obtain ⟨y368, hy368⟩ : ∃ y_ : List (S55), y_ = (x7_1 ++ [(⟨1, (rd_T86 t358 x10_1).f2⟩ : S55)]) := ⟨_, rfl⟩
         replace H : (r7_Links.l0 k1 y368 t358 t359 (wrap64 (x10_1 + 1))) = some (r1, r2) := by first | (rw [hy368]; with_reducible exact H) | (have H2_ := (Option.bind_some _ _).symm.trans H; rw [hy368]; with_reducible exact H2_) | (have H2_ := (Option.bind_some _ _).symm.trans H; with_reducible exact H2_) | with_reducible exact H | (rw [hy368]; exact H) | exact H
         have Ny368 := Aside0.mk hy368
         clear hy368
         have H' := Aside0.mk H
         clear H
         obtain ⟨Ao19, co19, eo19⟩ := Kd.R_slice HO_8.out
         subst eo19
         have p362 : 0 ≤ (x10_1 : Int) := of_decide_eq_true az_
         have q362 : x10_1 < (t358.length : Int) := of_decide_eq_true az_
         obtain ⟨ad362, e362, hx362_0, hx362_1, hx362_2⟩ := at_T86 (Kd.R_reads' HO_8.out).2.2 x10_1 p362 q362
         cases e362
         replace p362 := eq_true p362
         replace q362 := eq_true q362
         go_wp2_with (first | ((with_reducible refine gate_dst (N := 11) rfl ?_); refine box_event ?hg (N := 11) ?hd (cs := #[.int .i64 0, .string (⟨#[]⟩ : ByteArray)]) (t := 55) ?hr ?_; (case hd => rfl); (case hg => rfl); (case hr => first | (go_simp; done) | (go_simp; rfl)); intro gb363 hg w20 hbox hb; have n0_ := Aside0.mk (Kd.R_below (Kd.R_elderB (rz_ HO_7.out) gb363 (Nat.le_of_eq hg.symm)) hb); have n1_ := Aside0.mk (Kd.R_below (rz_ HO_8.out) hb); have n2_ := Aside0.mk (below_step bz_ hb); have n3_ := Aside0.mk (hbox); have n4_ := Aside0.mk ((by rw [hg]; exact (below_size bz_) : w.heap.size ≤ gb363)); have n5_ := Aside0.mk ((by rw [hg]; exact (below_size bz_) : w.heap.size ≤ gb363)); clear HO_7; clear HO_8; clear HB; have HO_7 := n0_; have HO_8 := n1_; have HB := n2_; have BK363 := n3_; have GW363 := n4_; have GE363 := n5_; clear n0_ n1_ n2_ n3_ n4_ n5_; clear hb hbox hg; have hcz21_0 : w20.cell? ⟨gb363, 0, none⟩ = some (.int .i64 0) := (blk_cell BK363.out 0).trans rfl; have hcz21_1 : w20.cell? ⟨gb363, 1, none⟩ = some (.string (⟨#[]⟩ : ByteArray)) := (blk_cell BK363.out 1).trans rfl; have hfz21_0 := blk_frozen BK363.out 0; have hfz21_1 := blk_frozen BK363.out 1; have p364 : 0 ≤ (x10_1 : Int) := of_decide_eq_true az_; have q364 : x10_1 < (t358.length : Int) := of_decide_eq_true az_; obtain ⟨ad364, e364, hx364_0, hx364_1, hx364_2⟩ := at_T86 (Kd.R_reads' HO_8.out).2.2 x10_1 p364 q364; obtain rfl : ad362 = ad364 := (by injection e364); have hn364_0 : ad362.block ≠ gb363 := Kd.own_blk (Kd.R_ne HO_8.out BK363.out (by decide)); have hn364_1 : ad362.block ≠ gb363 := Kd.own_blk (Kd.R_ne HO_8.out BK363.out (by decide)); replace hx364_0 := (cell_far (p := ⟨gb363, 0, none⟩) (by first | (rw [add_block]; exact hn364_0) | (show (Addr.add _ _).block ≠ _; rw [add_block]; exact hn364_0) | exact hn364_0) (.int .i64 1)).trans hx364_0; replace hx364_1 := (cell_far (p := ⟨gb363, 0, none⟩) (by first | (rw [add_block]; exact hn364_0) | (show (Addr.add _ _).block ≠ _; rw [add_block]; exact hn364_0) | exact hn364_0) (.int .i64 1)).trans hx364_1; replace hx364_2 := (cell_far (p := ⟨gb363, 0, none⟩) (by first | (rw [add_block]; exact hn364_0) | (show (Addr.add _ _).block ≠ _; rw [add_block]; exact hn364_0) | exact hn364_0) (.int .i64 1)).trans hx364_2; replace hx364_0 := (cell_far (p := ⟨gb363, 1, none⟩) (by first | (rw [add_block]; exact hn364_1) | (show (Addr.add _ _).block ≠ _; rw [add_block]; exact hn364_1) | exact hn364_1) (.string ((rd_T86 t358 x10_1).f2))).trans hx364_0; replace hx364_1 := (cell_far (p := ⟨gb363, 1, none⟩) (by first | (rw [add_block]; exact hn364_1) | (show (Addr.add _ _).block ≠ _; rw [add_block]; exact hn364_1) | exact hn364_1) (.string ((rd_T86 t358 x10_1).f2))).trans hx364_1; replace hx364_2 := (cell_far (p := ⟨gb363, 1, none⟩) (by first | (rw [add_block]; exact hn364_1) | (show (Addr.add _ _).block ≠ _; rw [add_block]; exact hn364_1) | exact hn364_1) (.string ((rd_T86 t358 x10_1).f2))).trans hx364_2; clear hn364_0; clear hn364_1; replace p364 := eq_true p364; replace q364 := eq_true q364) | ((with_reducible refine gate_builtin (b := .append) (xs := #[.tmp 55, .tmp 57]) rfl ?_); at_builtin; refine Kd.R_append k55 (w0 := w) w.heap.size rfl (.tmp 55) (.tmp 57) 51 55 (.agg #[(.int .i64 0), (.string ⟨#[]⟩)]) 24 rfl Tryd.underlying51 info55 rfl (by decide) (by omega) u7 x7_1 (⟨1, (rd_T86 t358 x10_1).f2⟩ : S55) [.int .i64 1, .string ((rd_T86 t358 x10_1).f2)] (fun k_ => k_ ≠ gb363) (fun _ => False) rfl (by first | (go_simp; done) | (go_simp; rfl)) ?aP (fun _ hk => hk.elim) ?aF ?aO ?aB ?aS ?aL ?_; (case aP => exact k55_mkM _ _ _ (⟨1, (rd_T86 t358 x10_1).f2⟩ : S55)); (case aB => exact (bs1_ GE363.out)); (case aF => exact (fun k_ hk => Kd.freshB (g := gb363) (o := .cells #[.int .i64 1, .string ((rd_T86 t358 x10_1).f2)] 55 (0, 0)) (by (with_reducible repeat (first | refine blk_drewN ?_ _ | refine blk_drew ?_ | refine blk_alloc ?_ _)); refine blk_put (cs := #[.int .i64 1, .string (⟨#[]⟩ : ByteArray)]) ?_ 1 _ rfl; (with_reducible repeat (first | refine blk_drewN ?_ _ | refine blk_drew ?_ | refine blk_alloc ?_ _)); refine blk_put (cs := #[.int .i64 0, .string (⟨#[]⟩ : ByteArray)]) ?_ 0 _ rfl; (with_reducible repeat (first | refine blk_drewN ?_ _ | refine blk_drew ?_ | refine blk_alloc ?_ _)); exact BK363.out) k_ hk)); (case aO => exact (rz_ (Kd.R_mono (Kd.R_far (p := ⟨gb363, 1, none⟩) (Kd.R_far (p := ⟨gb363, 0, none⟩) (Kd.R_mono HO_7.out (fun k_ hk => (⟨hk, hk.2⟩ : _ ∧ k_ ≠ gb363))) (fun _ hk => hk.2) (.int .i64 1)) (fun _ hk => hk.2) (.string ((rd_T86 t358 x10_1).f2))) (fun _ hk => hk.1.2)))); (case aS => exact (below_size (bs1_ GE363.out))); (case aL => have := LMc18.out; omega); intro v369 w22 ho hb hg hat; rw [← Ny368.out] at ho; have n0_ := Aside0.mk (Kd.R_over' (rz_ ((Kd.R_mono (Kd.R_far (p := ⟨gb363, 1, none⟩) (Kd.R_far (p := ⟨gb363, 0, none⟩) (Kd.R_types HO_8.out BK363.out (by decide)) (fun _ hk => hk.2) (.int .i64 1)) (fun _ hk => hk.2) (.string ((rd_T86 t358 x10_1).f2))) (fun _ h_ => h_.1)))) (Kd.R_typed (rz_ ((Kd.R_mono (Kd.R_far (p := ⟨gb363, 1, none⟩) (Kd.R_far (p := ⟨gb363, 0, none⟩) (Kd.R_mono HO_7.out (fun k_ hk => (⟨hk, hk.2⟩ : _ ∧ k_ ≠ gb363))) (fun _ hk => hk.2) (.int .i64 1)) (fun _ hk => hk.2) (.string ((rd_T86 t358 x10_1).f2))) (fun _ h_ => h_.1))))) (by decide) hg); have n1_ := Aside0.mk (blk_grown (g := gb363) (o := .cells #[.int .i64 1, .string ((rd_T86 t358 x10_1).f2)] 55 (0, 0)) (by (with_reducible repeat (first | refine blk_drewN ?_ _ | refine blk_drew ?_ | refine blk_alloc ?_ _)); refine blk_put (cs := #[.int .i64 1, .string (⟨#[]⟩ : ByteArray)]) ?_ 1 _ rfl; (with_reducible repeat (first | refine blk_drewN ?_ _ | refine blk_drew ?_ | refine blk_alloc ?_ _)); refine blk_put (cs := #[.int .i64 0, .string (⟨#[]⟩ : ByteArray)]) ?_ 0 _ rfl; (with_reducible repeat (first | refine blk_drewN ?_ _ | refine blk_drew ?_ | refine blk_alloc ?_ _)); exact BK363.out) hg (Kd.R_away HO_7.out (fun _ hk => hk.2))); have n2_ := Aside0.mk (hb); have n3_ := Aside0.mk (ho); clear HO_8; clear BK363; clear HB; clear HO_7; have HO_8 := n0_; have BK363 := n1_; have HB := n2_; have HO370 := n3_; clear n0_ n1_ n2_ n3_; clear ho hb hg hat))
         go_roundg k1
         case measure => have := HK1.out; omega
         case rel => exact ⟨(y368), (wrap64 (x10_1 + 1)), ez_, H', ⟨by have := HK1.out; omega⟩, ⟨rz_ (Kd.R_mono HO370.out (fun _ hk => trivial))⟩, ⟨rz_ HO_8.out⟩, ⟨bs1_ GE363.out⟩⟩
        · rw [if_neg c18] at H
          exact absurd H (by simp)
      · rw [if_neg c11] at H
        exact absurd H (by simp)
     · rw [if_neg c10] at H
       have c10b0 : decide (x10_1 < (t358.length : Int)) = false := decide_eq_false c10
       clear c10
       simp only [Option.some.injEq, Prod.mk.injEq] at H
       obtain ⟨rfl, rfl⟩ := H
       obtain ⟨Ao23, co23, eo23⟩ := Kd.R_slice HO_8.out
       subst eo23
       go_wp2
       go_ret2
       exact ⟨_, xz_, rz_ HO_7.out, bz_⟩
  ·
   rw [if_neg c4] at H
   have c4b0 : (t352 == 2) = false := beq_eq_false_iff_ne.mpr c4
   have c4b1 : (t352 != 2) = true := bne_iff_ne.mpr c4
   by_cases c24 : t352 = 3
   ·
    rw [if_pos c24] at H
    have c24b0 : (t352 == 3) = true := beq_iff_eq.mpr c24
    have c24b1 : (t352 != 3) = false := bne_eq_false_iff_eq.mpr c24
    clear c24
    replace H := Option.bind_eq_some_iff.mp H
    obtain ⟨⟨t371, t372, t375, t376, t377, t378⟩, A250, H⟩ := H
    try dsimp only at H
    have A25 := Aside0.mk A250
    clear A250
    by_cases c26 : t378 = 0
    ·
     rw [if_pos c26] at H
     have c26b0 : (t378 == 0) = true := beq_iff_eq.mpr c26
     have c26b1 : (t378 != 0) = false := bne_eq_false_iff_eq.mpr c26
     clear c26
     by_cases c27 : y355.length < 5864062014805
     ·
      rw [if_pos c27] at H
      have LMc27 := Aside0.mk c27
      clear c27
      obtain ⟨y380, hy380⟩ : ∃ y_ : List (S55), y_ = (y355 ++ [(⟨2, t371⟩ : S55)]) := ⟨_, rfl⟩
      replace H : (r7_Links.l1 k y380 0 t371 t372 t375 t376 t377) = some (r1, r2) := by first | (rw [hy380]; with_reducible exact H) | (have H2_ := (Option.bind_some _ _).symm.trans H; rw [hy380]; with_reducible exact H2_) | (have H2_ := (Option.bind_some _ _).symm.trans H; with_reducible exact H2_) | with_reducible exact H | (rw [hy380]; exact H) | exact H
      have Ny380 := Aside0.mk hy380
      clear hy380
      have H' := Aside0.mk H
      clear H
      go_enter Tryd.func19, Tryd.ntmps19
      go_wp2_with (first | ((with_reducible refine gate_callee (f := 17) rfl ?_); refine goesM_ (some 19) Tryd.func17 #[.string a0] ?_; (with_reducible refine (r7_Open.calls k a0 t352 t353 t354 _ A2.out).mono ?_); rintro e w28 ⟨rfl, hb⟩; refine ⟨_, rfl, ?_⟩; have n0_ := Aside0.mk (below_step bz_ hb); clear HB; have HB := n0_; clear n0_; (try clear hb); (try clear hb2); (try clear hk); (try clear hi)) | ((with_reducible refine gate_dst (N := 23) rfl ?_); refine Kd.R_lit k55 _ 55 ?hg (N := 23) ?hd (xs := ([] : List (S55))) (inner := []) (ok := fun _ => True) (okp := fun _ => True) ?hr ?hp (fun _ hk => hk) trivial (Below.refl _ _) (Nat.le_refl _) (by simp) ?_; (case hd => rfl); (case hg => rfl); (case hr => first | (go_simp; done) | (go_simp; rfl)); (case hp => exact (Reps.none _ _)); intro v356 w29 ho30 hb hg_ hnew_; clear hg_ hnew_; (first | rw [← Ny355.out] at ho30 | (simp only [Int.reduceToNat] at ho30; rw [← Ny355.out] at ho30)); have n0_ := Aside0.mk (Kd.R_lower ho30 (below_size bz_)); have n1_ := Aside0.mk (below_step bz_ hb); clear HB; have HO357 := n0_; have HB := n1_; clear n0_ n1_; clear hb ho30) | ((with_reducible refine gate_callee (f := 8) rfl ?_); refine goesM_ (some 66) Tryd.func8 #[.string t353] ?_; (with_reducible refine (r7_GetCommit.calls k t353 t371 t372 t375 t376 t377 t378 _ A25.out).mono ?_); rintro e w31 ⟨v373, rfl, ho0, hb⟩; refine ⟨_, rfl, ?_⟩; have n0_ := Aside0.mk (Kd.R_below (rz_ HO357.out) hb); have n1_ := Aside0.mk (Kd.R_lower ho0 (below_size bz_)); have n2_ := Aside0.mk (below_step bz_ hb); clear HO357; clear HB; have HO357 := n0_; have HO374 := n1_; have HB := n2_; clear n0_ n1_ n2_; (try clear hb); (try clear hb2); (try clear hk); (try clear hi); (try clear ho0)) | ((with_reducible refine gate_dst (N := 12) rfl ?_); refine box_event ?hg (N := 12) ?hd (cs := #[.string (⟨#[]⟩ : ByteArray), .slice none 0 0, .string (⟨#[]⟩ : ByteArray), .int .u64 0, .string (⟨#[]⟩ : ByteArray)]) (t := 30) ?hr ?_; (case hd => rfl); (case hg => rfl); (case hr => first | (go_simp; done) | (go_simp; rfl)); intro gb379 hg w32 hbox hb; have n0_ := Aside0.mk (Kd.R_below (rz_ HO357.out) hb); have n1_ := Aside0.mk (Kd.R_below (rz_ HO374.out) hb); have n2_ := Aside0.mk (below_step bz_ hb); have n3_ := Aside0.mk (hbox); have n4_ := Aside0.mk ((by rw [hg]; exact (below_size bz_) : w.heap.size ≤ gb379)); have n5_ := Aside0.mk ((by rw [hg]; exact (below_size bz_) : w.heap.size ≤ gb379)); clear HO357; clear HO374; clear HB; have HO357 := n0_; have HO374 := n1_; have HB := n2_; have BK379 := n3_; have GW379 := n4_; have GE379 := n5_; clear n0_ n1_ n2_ n3_ n4_ n5_; clear hb hbox hg; have hcz33_0 : w32.cell? ⟨gb379, 0, none⟩ = some (.string (⟨#[]⟩ : ByteArray)) := (blk_cell BK379.out 0).trans rfl; have hcz33_1 : w32.cell? ⟨gb379, 1, none⟩ = some (.slice none 0 0) := (blk_cell BK379.out 1).trans rfl; have hcz33_2 : w32.cell? ⟨gb379, 2, none⟩ = some (.string (⟨#[]⟩ : ByteArray)) := (blk_cell BK379.out 2).trans rfl; have hcz33_3 : w32.cell? ⟨gb379, 3, none⟩ = some (.int .u64 0) := (blk_cell BK379.out 3).trans rfl; have hcz33_4 : w32.cell? ⟨gb379, 4, none⟩ = some (.string (⟨#[]⟩ : ByteArray)) := (blk_cell BK379.out 4).trans rfl; have hfz33_0 := blk_frozen BK379.out 0; have hfz33_1 := blk_frozen BK379.out 1; have hfz33_2 := blk_frozen BK379.out 2; have hfz33_3 := blk_frozen BK379.out 3; have hfz33_4 := blk_frozen BK379.out 4; obtain ⟨Ao34, co34, eo34⟩ := Kd.R_slice HO374.out; subst eo34) | ((with_reducible refine gate_builtin (b := .append) (xs := #[.tmp 72, .tmp 76]) rfl ?_); at_builtin; refine Kd.R_append k55 (w0 := w) w.heap.size rfl (.tmp 72) (.tmp 76) 51 55 (.agg #[(.int .i64 0), (.string ⟨#[]⟩)]) 24 rfl Tryd.underlying51 info55 rfl (by decide) (by omega) v356 y355 (⟨2, t371⟩ : S55) [.int .i64 2, .string t371] (fun _ => True) (fun _ => False) rfl (by first | (go_simp; done) | (go_simp; rfl)) ?aP (fun _ hk => hk.elim) ?aF ?aO ?aB ?aS ?aL ?_; (case aP => exact k55_mkM _ _ _ (⟨2, t371⟩ : S55)); (case aB => exact (bs1_ GE379.out)); (case aF => exact (fun _ _ => trivial)); (case aO => exact (rz_ (Kd.R_mono (Kd.R_far (p := ⟨gb379, 4, none⟩) (Kd.R_far (p := ⟨gb379, 3, none⟩) (Kd.R_far (p := ⟨gb379, 2, none⟩) (Kd.R_far (p := ⟨gb379, 1, none⟩) (Kd.R_far (p := ⟨gb379, 0, none⟩) (Kd.R_types HO357.out BK379.out (by decide)) (fun _ hk => hk.2) (.string t371)) (fun _ hk => hk.2) (.slice Ao34 t372.length co34)) (fun _ hk => hk.2) (.string t375)) (fun _ hk => hk.2) (.int .u64 t376)) (fun _ hk => hk.2) (.string t377)) (fun _ hk => trivial)))); (case aS => exact (below_size (bs1_ GE379.out))); (case aL => have := LMc27.out; omega); intro v381 w35 ho hb hg hat; rw [← Ny380.out] at ho; have n0_ := Aside0.mk (Kd.R_over' (rz_ ((Kd.R_mono (Kd.R_far (p := ⟨gb379, 4, none⟩) (Kd.R_far (p := ⟨gb379, 3, none⟩) (Kd.R_far (p := ⟨gb379, 2, none⟩) (Kd.R_far (p := ⟨gb379, 1, none⟩) (Kd.R_far (p := ⟨gb379, 0, none⟩) (Kd.R_types HO374.out BK379.out (by decide)) (fun _ hk => hk.2) (.string t371)) (fun _ hk => hk.2) (.slice Ao34 t372.length co34)) (fun _ hk => hk.2) (.string t375)) (fun _ hk => hk.2) (.int .u64 t376)) (fun _ hk => hk.2) (.string t377)) (fun _ h_ => h_.1)))) (Kd.R_typed (rz_ ((Kd.R_mono (Kd.R_far (p := ⟨gb379, 4, none⟩) (Kd.R_far (p := ⟨gb379, 3, none⟩) (Kd.R_far (p := ⟨gb379, 2, none⟩) (Kd.R_far (p := ⟨gb379, 1, none⟩) (Kd.R_far (p := ⟨gb379, 0, none⟩) (Kd.R_types HO357.out BK379.out (by decide)) (fun _ hk => hk.2) (.string t371)) (fun _ hk => hk.2) (.slice Ao34 t372.length co34)) (fun _ hk => hk.2) (.string t375)) (fun _ hk => hk.2) (.int .u64 t376)) (fun _ hk => hk.2) (.string t377)) (fun _ h_ => h_.1))))) (by decide) hg); have n1_ := Aside0.mk (blk_grown (g := gb379) (o := .cells #[.string t371, .slice Ao34 t372.length co34, .string t375, .int .u64 t376, .string t377] 30 (0, 0)) (by (with_reducible repeat (first | refine blk_drewN ?_ _ | refine blk_drew ?_ | refine blk_alloc ?_ _)); refine blk_put (cs := #[.string t371, .slice Ao34 t372.length co34, .string t375, .int .u64 t376, .string (⟨#[]⟩ : ByteArray)]) ?_ 4 _ rfl; (with_reducible repeat (first | refine blk_drewN ?_ _ | refine blk_drew ?_ | refine blk_alloc ?_ _)); refine blk_put (cs := #[.string t371, .slice Ao34 t372.length co34, .string t375, .int .u64 0, .string (⟨#[]⟩ : ByteArray)]) ?_ 3 _ rfl; (with_reducible repeat (first | refine blk_drewN ?_ _ | refine blk_drew ?_ | refine blk_alloc ?_ _)); refine blk_put (cs := #[.string t371, .slice Ao34 t372.length co34, .string (⟨#[]⟩ : ByteArray), .int .u64 0, .string (⟨#[]⟩ : ByteArray)]) ?_ 2 _ rfl; (with_reducible repeat (first | refine blk_drewN ?_ _ | refine blk_drew ?_ | refine blk_alloc ?_ _)); refine blk_put (cs := #[.string t371, .slice none 0 0, .string (⟨#[]⟩ : ByteArray), .int .u64 0, .string (⟨#[]⟩ : ByteArray)]) ?_ 1 _ rfl; (with_reducible repeat (first | refine blk_drewN ?_ _ | refine blk_drew ?_ | refine blk_alloc ?_ _)); refine blk_put (cs := #[.string (⟨#[]⟩ : ByteArray), .slice none 0 0, .string (⟨#[]⟩ : ByteArray), .int .u64 0, .string (⟨#[]⟩ : ByteArray)]) ?_ 0 _ rfl; (with_reducible repeat (first | refine blk_drewN ?_ _ | refine blk_drew ?_ | refine blk_alloc ?_ _)); exact BK379.out) hg (Kd.R_ne HO357.out BK379.out (by decide))); have n2_ := Aside0.mk (hb); have n3_ := Aside0.mk (ho); clear HO374; clear BK379; clear HB; clear HO357; have HO374 := n0_; have BK379 := n1_; have HB := n2_; have HO382 := n3_; clear n0_ n1_ n2_ n3_; clear ho hb hg hat))
      go_loopg [7, 14] k (fun kq v7 v14 w' => ∃ (x7_1 : List (S55)) (x14_1 : Int), v14 = .int .i64 x14_1 ∧ Aside0 (r7_Links.l1 kq x7_1 x14_1 t371 t372 t375 t376 t377 = some (r1, r2)) ∧ Aside0 (kq ≤ k) ∧ Aside0 (Kd.R k55 55 w' w.heap.size (fun _ => True) v7 x7_1) ∧ Aside0 (Kd.R Kd.string 9 w' w.heap.size (fun _ => True) (.slice Ao34 t372.length co34) t372) ∧ Aside0 (w'.heap[gb379]? = some (.cells #[.string t371, (.slice Ao34 t372.length co34), .string t375, .int .u64 t376, .string t377] 30 (0, 0))) ∧ Aside0 (Below w.heap.size w w'))
      case atStart => exact ⟨(y380), (0), ez_, H', ⟨Nat.le_refl _⟩, ⟨rz_ HO382.out⟩, ⟨rz_ HO374.out⟩, ⟨kz_ BK379.out⟩, ⟨bs1_ GE379.out⟩⟩
      case round =>
       clear H'
       try clear c1
       try clear c2
       try clear p2
       try clear c3
       try clear c3b0
       try clear c3b1
       try clear p3
       try clear q3
       try clear hx3
       try clear c4
       try clear c4b0
       try clear c4b1
       try clear p6
       try clear c8
       try clear c10
       try clear c10b0
       try clear c11
       try clear c11b0
       try clear c12
       try clear c12b0
       try clear c12b1
       try clear c13
       try clear c17
       try clear c18
       try clear c19
       try clear c24
       try clear c24b0
       try clear c24b1
       try clear c26
       try clear c26b0
       try clear c26b1
       try clear c27
       try clear hcz16_0
       try clear hcz16_1
       try clear hcz21_0
       try clear hcz21_1
       try clear hcz33_0
       try clear hcz33_1
       try clear hcz33_2
       try clear hcz33_3
       try clear hcz33_4
       try clear hfz16_0
       try clear hfz16_1
       try clear hfz21_0
       try clear hfz21_1
       try clear hfz33_0
       try clear hfz33_1
       try clear hfz33_2
       try clear hfz33_3
       try clear hfz33_4
       try clear hx362_0
       try clear hx362_1
       try clear hx362_2
       try clear hx364_0
       try clear hx364_1
       try clear hx364_2
       try clear p2
       try clear p362
       try clear p364
       try clear q362
       try clear q364
       obtain ⟨x7_1, x14_1, rfl, HA, HK1, HO_7, HO_380001, BK379, HB⟩ := hrel
       cases gk with
       | zero => exact absurd HA.out (by simp [r7_Links.l1])
       | succ k1 =>
        have H := HA.out
        clear HA
        simp only [r7_Links.l1] at H
        by_cases c36 : x14_1 < (t372.length : Int)
        ·
         rw [if_pos c36] at H
         have c36b0 : decide (x14_1 < (t372.length : Int)) = true := decide_eq_true c36
         clear c36
         by_cases c37 : 0 ≤ x14_1
         ·
          rw [if_pos c37] at H
          have c37b0 : decide (0 ≤ x14_1) = true := decide_eq_true c37
          clear c37
          by_cases c38 : x7_1.length < 5864062014805
          ·
           rw [if_pos c38] at H
           have LMc38 := Aside0.mk c38
           clear c38
           obtain ⟨y384, hy384⟩ : ∃ y_ : List (S55), y_ = (x7_1 ++ [(⟨3, rdOf ByteArray.empty t372 x14_1⟩ : S55)]) := ⟨_, rfl⟩
           replace H : (r7_Links.l1 k1 y384 (wrap64 (x14_1 + 1)) t371 t372 t375 t376 t377) = some (r1, r2) := by first | (rw [hy384]; with_reducible exact H) | (have H2_ := (Option.bind_some _ _).symm.trans H; rw [hy384]; with_reducible exact H2_) | (have H2_ := (Option.bind_some _ _).symm.trans H; with_reducible exact H2_) | with_reducible exact H | (rw [hy384]; exact H) | exact H
           have Ny384 := Aside0.mk hy384
           clear hy384
           have H' := Aside0.mk H
           clear H
           have hcz39_0 : wr.cell? ⟨gb379, 0, none⟩ = some (.string t371) := (blk_cell BK379.out 0).trans rfl
           have hcz39_1 : wr.cell? ⟨gb379, 1, none⟩ = some (.slice Ao34 t372.length co34) := (blk_cell BK379.out 1).trans rfl
           have hcz39_2 : wr.cell? ⟨gb379, 2, none⟩ = some (.string t375) := (blk_cell BK379.out 2).trans rfl
           have hcz39_3 : wr.cell? ⟨gb379, 3, none⟩ = some (.int .u64 t376) := (blk_cell BK379.out 3).trans rfl
           have hcz39_4 : wr.cell? ⟨gb379, 4, none⟩ = some (.string t377) := (blk_cell BK379.out 4).trans rfl
           have hfz39_0 := blk_frozen BK379.out 0
           have hfz39_1 := blk_frozen BK379.out 1
           have hfz39_2 := blk_frozen BK379.out 2
           have hfz39_3 := blk_frozen BK379.out 3
           have hfz39_4 := blk_frozen BK379.out 4
           have p383 : 0 ≤ (x14_1 : Int) := of_decide_eq_true az_
           have q383 : x14_1 < (t372.length : Int) := of_decide_eq_true az_
           obtain ⟨ad383, e383, hx383_0⟩ := Kd.at_string (Kd.R_reads' HO_380001.out).2.2 x14_1 p383 q383
           cases e383
           replace p383 := eq_true p383
           replace q383 := eq_true q383
           go_wp2_with (first | ((with_reducible refine gate_builtin (b := .append) (xs := #[.tmp 85, .tmp 92]) rfl ?_); at_builtin; refine Kd.R_append k55 (w0 := w) w.heap.size rfl (.tmp 85) (.tmp 92) 51 55 (.agg #[(.int .i64 0), (.string ⟨#[]⟩)]) 24 rfl Tryd.underlying51 info55 rfl (by decide) (by omega) u7 x7_1 (⟨3, rdOf ByteArray.empty t372 x14_1⟩ : S55) [.int .i64 3, .string (rdOf ByteArray.empty t372 x14_1)] (fun _ => True) (fun _ => False) rfl rfl ?aP (fun _ hk => hk.elim) ?aF ?aO ?aB ?aS ?aL ?_; (case aP => exact k55_mkM _ _ _ (⟨3, rdOf ByteArray.empty t372 x14_1⟩ : S55)); (case aB => exact (bs1_ GE379.out)); (case aF => exact (fun _ _ => trivial)); (case aO => exact (rz_ HO_7.out)); (case aS => exact (below_size (bs1_ GE379.out))); (case aL => have := LMc38.out; omega); intro v385 w40 ho hb hg hat; rw [← Ny384.out] at ho; have n0_ := Aside0.mk (Kd.R_over' (rz_ HO_380001.out) (Kd.R_typed (rz_ HO_7.out)) (by decide) hg); have n1_ := Aside0.mk (blk_grown (g := gb379) (o := .cells #[.string t371, .slice (some ad383) t372.length co34, .string t375, .int .u64 t376, .string t377] 30 (0, 0)) (kz_ BK379.out) hg (Kd.R_ne HO_7.out BK379.out (by decide))); have n2_ := Aside0.mk (hb); have n3_ := Aside0.mk (ho); clear HO_380001; clear BK379; clear HB; clear HO_7; have HO_380001 := n0_; have BK379 := n1_; have HB := n2_; have HO386 := n3_; clear n0_ n1_ n2_ n3_; clear ho hb hg hat))
           go_roundg k1
           case measure => have := HK1.out; omega
           case rel => exact ⟨(y384), (wrap64 (x14_1 + 1)), ez_, H', ⟨by have := HK1.out; omega⟩, ⟨rz_ HO386.out⟩, ⟨rz_ HO_380001.out⟩, ⟨kz_ BK379.out⟩, ⟨bs1_ GE379.out⟩⟩
          · rw [if_neg c38] at H
            exact absurd H (by simp)
         · rw [if_neg c37] at H
           exact absurd H (by simp)
        ·
         rw [if_neg c36] at H
         have c36b0 : decide (x14_1 < (t372.length : Int)) = false := decide_eq_false c36
         clear c36
         simp only [Option.some.injEq, Prod.mk.injEq] at H
         obtain ⟨rfl, rfl⟩ := H
         have hcz41_0 : wr.cell? ⟨gb379, 0, none⟩ = some (.string t371) := (blk_cell BK379.out 0).trans rfl
         have hcz41_1 : wr.cell? ⟨gb379, 1, none⟩ = some (.slice Ao34 t372.length co34) := (blk_cell BK379.out 1).trans rfl
         have hcz41_2 : wr.cell? ⟨gb379, 2, none⟩ = some (.string t375) := (blk_cell BK379.out 2).trans rfl
         have hcz41_3 : wr.cell? ⟨gb379, 3, none⟩ = some (.int .u64 t376) := (blk_cell BK379.out 3).trans rfl
         have hcz41_4 : wr.cell? ⟨gb379, 4, none⟩ = some (.string t377) := (blk_cell BK379.out 4).trans rfl
         have hfz41_0 := blk_frozen BK379.out 0
         have hfz41_1 := blk_frozen BK379.out 1
         have hfz41_2 := blk_frozen BK379.out 2
         have hfz41_3 := blk_frozen BK379.out 3
         have hfz41_4 := blk_frozen BK379.out 4
         go_wp2
         go_ret2
         exact ⟨_, xz_, rz_ HO_7.out, bs1_ GE379.out⟩
     · rw [if_neg c27] at H
       exact absurd H (by simp)
    · rw [if_neg c26] at H
      have c26b0 : (t378 == 0) = false := beq_eq_false_iff_ne.mpr c26
      have c26b1 : (t378 != 0) = true := bne_iff_ne.mpr c26
      simp only [Option.some.injEq, Prod.mk.injEq] at H
      obtain ⟨rfl, rfl⟩ := H
      go_enter Tryd.func19, Tryd.ntmps19
      go_wp2_with (first | ((with_reducible refine gate_callee (f := 17) rfl ?_); refine goesM_ (some 19) Tryd.func17 #[.string a0] ?_; (with_reducible refine (r7_Open.calls k a0 t352 t353 t354 _ A2.out).mono ?_); rintro e w42 ⟨rfl, hb⟩; refine ⟨_, rfl, ?_⟩; have n0_ := Aside0.mk (below_step bz_ hb); clear HB; have HB := n0_; clear n0_; (try clear hb); (try clear hb2); (try clear hk); (try clear hi)) | ((with_reducible refine gate_dst (N := 23) rfl ?_); refine Kd.R_lit k55 _ 55 ?hg (N := 23) ?hd (xs := ([] : List (S55))) (inner := []) (ok := fun _ => True) (okp := fun _ => True) ?hr ?hp (fun _ hk => hk) trivial (Below.refl _ _) (Nat.le_refl _) (by simp) ?_; (case hd => rfl); (case hg => rfl); (case hr => first | (go_simp; done) | (go_simp; rfl)); (case hp => exact (Reps.none _ _)); intro v356 w43 ho44 hb hg_ hnew_; clear hg_ hnew_; (first | rw [← Ny355.out] at ho44 | (simp only [Int.reduceToNat] at ho44; rw [← Ny355.out] at ho44)); have n0_ := Aside0.mk (Kd.R_lower ho44 (below_size bz_)); have n1_ := Aside0.mk (below_step bz_ hb); clear HB; have HO357 := n0_; have HB := n1_; clear n0_ n1_; clear hb ho44) | ((with_reducible refine gate_callee (f := 8) rfl ?_); refine goesM_ (some 66) Tryd.func8 #[.string t353] ?_; (with_reducible refine (r7_GetCommit.calls k t353 t371 t372 t375 t376 t377 t378 _ A25.out).mono ?_); rintro e w45 ⟨v373, rfl, ho0, hb⟩; refine ⟨_, rfl, ?_⟩; have n0_ := Aside0.mk (Kd.R_below (rz_ HO357.out) hb); have n1_ := Aside0.mk (Kd.R_lower ho0 (below_size bz_)); have n2_ := Aside0.mk (below_step bz_ hb); clear HO357; clear HB; have HO357 := n0_; have HO374 := n1_; have HB := n2_; clear n0_ n1_ n2_; (try clear hb); (try clear hb2); (try clear hk); (try clear hi); (try clear ho0)) | ((with_reducible refine gate_dst (N := 12) rfl ?_); refine box_event ?hg (N := 12) ?hd (cs := #[.string (⟨#[]⟩ : ByteArray), .slice none 0 0, .string (⟨#[]⟩ : ByteArray), .int .u64 0, .string (⟨#[]⟩ : ByteArray)]) (t := 30) ?hr ?_; (case hd => rfl); (case hg => rfl); (case hr => first | (go_simp; done) | (go_simp; rfl)); intro gb379 hg w46 hbox hb; have n0_ := Aside0.mk (Kd.R_below (rz_ HO357.out) hb); have n1_ := Aside0.mk (Kd.R_below (rz_ HO374.out) hb); have n2_ := Aside0.mk (below_step bz_ hb); have n3_ := Aside0.mk (hbox); have n4_ := Aside0.mk ((by rw [hg]; exact (below_size bz_) : w.heap.size ≤ gb379)); have n5_ := Aside0.mk ((by rw [hg]; exact (below_size bz_) : w.heap.size ≤ gb379)); clear HO357; clear HO374; clear HB; have HO357 := n0_; have HO374 := n1_; have HB := n2_; have BK379 := n3_; have GW379 := n4_; have GE379 := n5_; clear n0_ n1_ n2_ n3_ n4_ n5_; clear hb hbox hg; have hcz47_0 : w46.cell? ⟨gb379, 0, none⟩ = some (.string (⟨#[]⟩ : ByteArray)) := (blk_cell BK379.out 0).trans rfl; have hcz47_1 : w46.cell? ⟨gb379, 1, none⟩ = some (.slice none 0 0) := (blk_cell BK379.out 1).trans rfl; have hcz47_2 : w46.cell? ⟨gb379, 2, none⟩ = some (.string (⟨#[]⟩ : ByteArray)) := (blk_cell BK379.out 2).trans rfl; have hcz47_3 : w46.cell? ⟨gb379, 3, none⟩ = some (.int .u64 0) := (blk_cell BK379.out 3).trans rfl; have hcz47_4 : w46.cell? ⟨gb379, 4, none⟩ = some (.string (⟨#[]⟩ : ByteArray)) := (blk_cell BK379.out 4).trans rfl; have hfz47_0 := blk_frozen BK379.out 0; have hfz47_1 := blk_frozen BK379.out 1; have hfz47_2 := blk_frozen BK379.out 2; have hfz47_3 := blk_frozen BK379.out 3; have hfz47_4 := blk_frozen BK379.out 4; obtain ⟨Ao48, co48, eo48⟩ := Kd.R_slice HO374.out; subst eo48))
      go_ret2
      exact ⟨_, xz_, nz_, bs1_ GE379.out⟩
   ·
    rw [if_neg c24] at H
    have c24b0 : (t352 == 3) = false := beq_eq_false_iff_ne.mpr c24
    have c24b1 : (t352 != 3) = true := bne_iff_ne.mpr c24
    by_cases c49 : t352 = 4
    ·
     rw [if_pos c49] at H
     have c49b0 : (t352 == 4) = true := beq_iff_eq.mpr c49
     have c49b1 : (t352 != 4) = false := bne_eq_false_iff_eq.mpr c49
     clear c49
     replace H := Option.bind_eq_some_iff.mp H
     obtain ⟨⟨t387, t388, t389, t390, t391⟩, A500, H⟩ := H
     try dsimp only at H
     have A50 := Aside0.mk A500
     clear A500
     by_cases c51 : t391 = 0
     ·
      rw [if_pos c51] at H
      have c51b0 : (t391 == 0) = true := beq_iff_eq.mpr c51
      have c51b1 : (t391 != 0) = false := bne_eq_false_iff_eq.mpr c51
      clear c51
      by_cases c52 : y355.length < 5864062014805
      · rw [if_pos c52] at H
        have LMc52 := Aside0.mk c52
        clear c52
        obtain ⟨y393, hy393⟩ : ∃ y_ : List (S55), y_ = (y355 ++ [(⟨t388, t387⟩ : S55)]) := ⟨_, rfl⟩
        replace H : (some (y393, 0)) = some (r1, r2) := by first | (rw [hy393]; with_reducible exact H) | (have H2_ := (Option.bind_some _ _).symm.trans H; rw [hy393]; with_reducible exact H2_) | (have H2_ := (Option.bind_some _ _).symm.trans H; with_reducible exact H2_) | with_reducible exact H | (rw [hy393]; exact H) | exact H
        have Ny393 := Aside0.mk hy393
        clear hy393
        simp only [Option.some.injEq, Prod.mk.injEq] at H
        obtain ⟨rfl, rfl⟩ := H
        go_enter Tryd.func19, Tryd.ntmps19
        go_wp2_with (first | ((with_reducible refine gate_callee (f := 17) rfl ?_); refine goesM_ (some 19) Tryd.func17 #[.string a0] ?_; (with_reducible refine (r7_Open.calls k a0 t352 t353 t354 _ A2.out).mono ?_); rintro e w53 ⟨rfl, hb⟩; refine ⟨_, rfl, ?_⟩; have n0_ := Aside0.mk (below_step bz_ hb); clear HB; have HB := n0_; clear n0_; (try clear hb); (try clear hb2); (try clear hk); (try clear hi)) | ((with_reducible refine gate_dst (N := 23) rfl ?_); refine Kd.R_lit k55 _ 55 ?hg (N := 23) ?hd (xs := ([] : List (S55))) (inner := []) (ok := fun _ => True) (okp := fun _ => True) ?hr ?hp (fun _ hk => hk) trivial (Below.refl _ _) (Nat.le_refl _) (by simp) ?_; (case hd => rfl); (case hg => rfl); (case hr => first | (go_simp; done) | (go_simp; rfl)); (case hp => exact (Reps.none _ _)); intro v356 w54 ho55 hb hg_ hnew_; clear hg_ hnew_; (first | rw [← Ny355.out] at ho55 | (simp only [Int.reduceToNat] at ho55; rw [← Ny355.out] at ho55)); have n0_ := Aside0.mk (Kd.R_lower ho55 (below_size bz_)); have n1_ := Aside0.mk (below_step bz_ hb); clear HB; have HO357 := n0_; have HB := n1_; clear n0_ n1_; clear hb ho55) | ((with_reducible refine gate_callee (f := 48) rfl ?_); refine goesM_ (some 99) Tryd.func48 #[.string t353] ?_; (with_reducible refine (r7_GetTag.calls k t353 t387 t388 t389 t390 t391 _ A50.out).mono ?_); rintro e w56 ⟨rfl, hb⟩; refine ⟨_, rfl, ?_⟩; have n0_ := Aside0.mk (Kd.R_below (rz_ HO357.out) hb); have n1_ := Aside0.mk (below_step bz_ hb); clear HO357; clear HB; have HO357 := n0_; have HB := n1_; clear n0_ n1_; (try clear hb); (try clear hb2); (try clear hk); (try clear hi)) | ((with_reducible refine gate_dst (N := 15) rfl ?_); refine box_event ?hg (N := 15) ?hd (cs := #[.string (⟨#[]⟩ : ByteArray), .int .i64 0, .string (⟨#[]⟩ : ByteArray), .string (⟨#[]⟩ : ByteArray)]) (t := 87) ?hr ?_; (case hd => rfl); (case hg => rfl); (case hr => first | (go_simp; done) | (go_simp; rfl)); intro gb392 hg w57 hbox hb; have n0_ := Aside0.mk (Kd.R_below (rz_ HO357.out) hb); have n1_ := Aside0.mk (below_step bz_ hb); have n2_ := Aside0.mk (hbox); have n3_ := Aside0.mk ((by rw [hg]; exact (below_size bz_) : w.heap.size ≤ gb392)); have n4_ := Aside0.mk ((by rw [hg]; exact (below_size bz_) : w.heap.size ≤ gb392)); clear HO357; clear HB; have HO357 := n0_; have HB := n1_; have BK392 := n2_; have GW392 := n3_; have GE392 := n4_; clear n0_ n1_ n2_ n3_ n4_; clear hb hbox hg; have hcz58_0 : w57.cell? ⟨gb392, 0, none⟩ = some (.string (⟨#[]⟩ : ByteArray)) := (blk_cell BK392.out 0).trans rfl; have hcz58_1 : w57.cell? ⟨gb392, 1, none⟩ = some (.int .i64 0) := (blk_cell BK392.out 1).trans rfl; have hcz58_2 : w57.cell? ⟨gb392, 2, none⟩ = some (.string (⟨#[]⟩ : ByteArray)) := (blk_cell BK392.out 2).trans rfl; have hcz58_3 : w57.cell? ⟨gb392, 3, none⟩ = some (.string (⟨#[]⟩ : ByteArray)) := (blk_cell BK392.out 3).trans rfl; have hfz58_0 := blk_frozen BK392.out 0; have hfz58_1 := blk_frozen BK392.out 1; have hfz58_2 := blk_frozen BK392.out 2; have hfz58_3 := blk_frozen BK392.out 3) | ((with_reducible refine gate_builtin (b := .append) (xs := #[.tmp 105, .tmp 111]) rfl ?_); at_builtin; refine Kd.R_append k55 (w0 := w) w.heap.size rfl (.tmp 105) (.tmp 111) 51 55 (.agg #[(.int .i64 0), (.string ⟨#[]⟩)]) 24 rfl Tryd.underlying51 info55 rfl (by decide) (by omega) v356 y355 (⟨t388, t387⟩ : S55) [.int .i64 t388, .string t387] (fun _ => True) (fun _ => False) rfl (by first | (go_simp; done) | (go_simp; rfl)) ?aP (fun _ hk => hk.elim) ?aF ?aO ?aB ?aS ?aL ?_; (case aP => exact k55_mkM _ _ _ (⟨t388, t387⟩ : S55)); (case aB => exact (bs1_ GE392.out)); (case aF => exact (fun _ _ => trivial)); (case aO => exact (rz_ (Kd.R_mono (Kd.R_far (p := ⟨gb392, 3, none⟩) (Kd.R_far (p := ⟨gb392, 2, none⟩) (Kd.R_far (p := ⟨gb392, 1, none⟩) (Kd.R_far (p := ⟨gb392, 0, none⟩) (Kd.R_types HO357.out BK392.out (by decide)) (fun _ hk => hk.2) (.string t387)) (fun _ hk => hk.2) (.int .i64 t388)) (fun _ hk => hk.2) (.string t389)) (fun _ hk => hk.2) (.string t390)) (fun _ hk => trivial)))); (case aS => exact (below_size (bs1_ GE392.out))); (case aL => have := LMc52.out; omega); intro v394 w59 ho hb hg hat; rw [← Ny393.out] at ho; have n0_ := Aside0.mk (blk_grown (g := gb392) (o := .cells #[.string t387, .int .i64 t388, .string t389, .string t390] 87 (0, 0)) (by (with_reducible repeat (first | refine blk_drewN ?_ _ | refine blk_drew ?_ | refine blk_alloc ?_ _)); refine blk_put (cs := #[.string t387, .int .i64 t388, .string t389, .string (⟨#[]⟩ : ByteArray)]) ?_ 3 _ rfl; (with_reducible repeat (first | refine blk_drewN ?_ _ | refine blk_drew ?_ | refine blk_alloc ?_ _)); refine blk_put (cs := #[.string t387, .int .i64 t388, .string (⟨#[]⟩ : ByteArray), .string (⟨#[]⟩ : ByteArray)]) ?_ 2 _ rfl; (with_reducible repeat (first | refine blk_drewN ?_ _ | refine blk_drew ?_ | refine blk_alloc ?_ _)); refine blk_put (cs := #[.string t387, .int .i64 0, .string (⟨#[]⟩ : ByteArray), .string (⟨#[]⟩ : ByteArray)]) ?_ 1 _ rfl; (with_reducible repeat (first | refine blk_drewN ?_ _ | refine blk_drew ?_ | refine blk_alloc ?_ _)); refine blk_put (cs := #[.string (⟨#[]⟩ : ByteArray), .int .i64 0, .string (⟨#[]⟩ : ByteArray), .string (⟨#[]⟩ : ByteArray)]) ?_ 0 _ rfl; (with_reducible repeat (first | refine blk_drewN ?_ _ | refine blk_drew ?_ | refine blk_alloc ?_ _)); exact BK392.out) hg (Kd.R_ne HO357.out BK392.out (by decide))); have n1_ := Aside0.mk (hb); have n2_ := Aside0.mk (ho); clear BK392; clear HB; clear HO357; have BK392 := n0_; have HB := n1_; have HO395 := n2_; clear n0_ n1_ n2_; clear ho hb hg hat))
        go_ret2
        exact ⟨_, xz_, rz_ HO395.out, bs1_ GE392.out⟩
      · rw [if_neg c52] at H
        exact absurd H (by simp)
     · rw [if_neg c51] at H
       have c51b0 : (t391 == 0) = false := beq_eq_false_iff_ne.mpr c51
       have c51b1 : (t391 != 0) = true := bne_iff_ne.mpr c51
       simp only [Option.some.injEq, Prod.mk.injEq] at H
       obtain ⟨rfl, rfl⟩ := H
       go_enter Tryd.func19, Tryd.ntmps19
       go_wp2_with (first | ((with_reducible refine gate_callee (f := 17) rfl ?_); refine goesM_ (some 19) Tryd.func17 #[.string a0] ?_; (with_reducible refine (r7_Open.calls k a0 t352 t353 t354 _ A2.out).mono ?_); rintro e w60 ⟨rfl, hb⟩; refine ⟨_, rfl, ?_⟩; have n0_ := Aside0.mk (below_step bz_ hb); clear HB; have HB := n0_; clear n0_; (try clear hb); (try clear hb2); (try clear hk); (try clear hi)) | ((with_reducible refine gate_dst (N := 23) rfl ?_); refine Kd.R_lit k55 _ 55 ?hg (N := 23) ?hd (xs := ([] : List (S55))) (inner := []) (ok := fun _ => True) (okp := fun _ => True) ?hr ?hp (fun _ hk => hk) trivial (Below.refl _ _) (Nat.le_refl _) (by simp) ?_; (case hd => rfl); (case hg => rfl); (case hr => first | (go_simp; done) | (go_simp; rfl)); (case hp => exact (Reps.none _ _)); intro v356 w61 ho62 hb hg_ hnew_; clear hg_ hnew_; (first | rw [← Ny355.out] at ho62 | (simp only [Int.reduceToNat] at ho62; rw [← Ny355.out] at ho62)); have n0_ := Aside0.mk (Kd.R_lower ho62 (below_size bz_)); have n1_ := Aside0.mk (below_step bz_ hb); clear HB; have HO357 := n0_; have HB := n1_; clear n0_ n1_; clear hb ho62) | ((with_reducible refine gate_callee (f := 48) rfl ?_); refine goesM_ (some 99) Tryd.func48 #[.string t353] ?_; (with_reducible refine (r7_GetTag.calls k t353 t387 t388 t389 t390 t391 _ A50.out).mono ?_); rintro e w63 ⟨rfl, hb⟩; refine ⟨_, rfl, ?_⟩; have n0_ := Aside0.mk (Kd.R_below (rz_ HO357.out) hb); have n1_ := Aside0.mk (below_step bz_ hb); clear HO357; clear HB; have HO357 := n0_; have HB := n1_; clear n0_ n1_; (try clear hb); (try clear hb2); (try clear hk); (try clear hi)) | ((with_reducible refine gate_dst (N := 15) rfl ?_); refine box_event ?hg (N := 15) ?hd (cs := #[.string (⟨#[]⟩ : ByteArray), .int .i64 0, .string (⟨#[]⟩ : ByteArray), .string (⟨#[]⟩ : ByteArray)]) (t := 87) ?hr ?_; (case hd => rfl); (case hg => rfl); (case hr => first | (go_simp; done) | (go_simp; rfl)); intro gb392 hg w64 hbox hb; have n0_ := Aside0.mk (Kd.R_below (rz_ HO357.out) hb); have n1_ := Aside0.mk (below_step bz_ hb); have n2_ := Aside0.mk (hbox); have n3_ := Aside0.mk ((by rw [hg]; exact (below_size bz_) : w.heap.size ≤ gb392)); have n4_ := Aside0.mk ((by rw [hg]; exact (below_size bz_) : w.heap.size ≤ gb392)); clear HO357; clear HB; have HO357 := n0_; have HB := n1_; have BK392 := n2_; have GW392 := n3_; have GE392 := n4_; clear n0_ n1_ n2_ n3_ n4_; clear hb hbox hg; have hcz65_0 : w64.cell? ⟨gb392, 0, none⟩ = some (.string (⟨#[]⟩ : ByteArray)) := (blk_cell BK392.out 0).trans rfl; have hcz65_1 : w64.cell? ⟨gb392, 1, none⟩ = some (.int .i64 0) := (blk_cell BK392.out 1).trans rfl; have hcz65_2 : w64.cell? ⟨gb392, 2, none⟩ = some (.string (⟨#[]⟩ : ByteArray)) := (blk_cell BK392.out 2).trans rfl; have hcz65_3 : w64.cell? ⟨gb392, 3, none⟩ = some (.string (⟨#[]⟩ : ByteArray)) := (blk_cell BK392.out 3).trans rfl; have hfz65_0 := blk_frozen BK392.out 0; have hfz65_1 := blk_frozen BK392.out 1; have hfz65_2 := blk_frozen BK392.out 2; have hfz65_3 := blk_frozen BK392.out 3))
       go_ret2
       exact ⟨_, xz_, nz_, bs1_ GE392.out⟩
    · rw [if_neg c49] at H
      have c49b0 : (t352 == 4) = false := beq_eq_false_iff_ne.mpr c49
      have c49b1 : (t352 != 4) = true := bne_iff_ne.mpr c49
      simp only [Option.some.injEq, Prod.mk.injEq] at H
      obtain ⟨rfl, rfl⟩ := H
      go_enter Tryd.func19, Tryd.ntmps19
      go_wp2_with (first | ((with_reducible refine gate_callee (f := 17) rfl ?_); refine goesM_ (some 19) Tryd.func17 #[.string a0] ?_; (with_reducible refine (r7_Open.calls k a0 t352 t353 t354 _ A2.out).mono ?_); rintro e w66 ⟨rfl, hb⟩; refine ⟨_, rfl, ?_⟩; have n0_ := Aside0.mk (below_step bz_ hb); clear HB; have HB := n0_; clear n0_; (try clear hb); (try clear hb2); (try clear hk); (try clear hi)) | ((with_reducible refine gate_dst (N := 23) rfl ?_); refine Kd.R_lit k55 _ 55 ?hg (N := 23) ?hd (xs := ([] : List (S55))) (inner := []) (ok := fun _ => True) (okp := fun _ => True) ?hr ?hp (fun _ hk => hk) trivial (Below.refl _ _) (Nat.le_refl _) (by simp) ?_; (case hd => rfl); (case hg => rfl); (case hr => first | (go_simp; done) | (go_simp; rfl)); (case hp => exact (Reps.none _ _)); intro v356 w67 ho68 hb hg_ hnew_; clear hg_ hnew_; (first | rw [← Ny355.out] at ho68 | (simp only [Int.reduceToNat] at ho68; rw [← Ny355.out] at ho68)); have n0_ := Aside0.mk (Kd.R_lower ho68 (below_size bz_)); have n1_ := Aside0.mk (below_step bz_ hb); clear HB; have HO357 := n0_; have HB := n1_; clear n0_ n1_; clear hb ho68))
      go_ret2
      exact ⟨_, xz_, rz_ HO357.out, bz_⟩
 · rw [if_neg c3] at H
   have c3b0 : (t354 == 0) = false := beq_eq_false_iff_ne.mpr c3
   have c3b1 : (t354 != 0) = true := bne_iff_ne.mpr c3
   simp only [Option.some.injEq, Prod.mk.injEq] at H
   obtain ⟨rfl, rfl⟩ := H
   go_enter Tryd.func19, Tryd.ntmps19
   go_wp2_with (first | ((with_reducible refine gate_callee (f := 17) rfl ?_); refine goesM_ (some 19) Tryd.func17 #[.string a0] ?_; (with_reducible refine (r7_Open.calls k a0 t352 t353 t354 _ A2.out).mono ?_); rintro e w69 ⟨rfl, hb⟩; refine ⟨_, rfl, ?_⟩; have n0_ := Aside0.mk (below_step bz_ hb); clear HB; have HB := n0_; clear n0_; (try clear hb); (try clear hb2); (try clear hk); (try clear hi)) | ((with_reducible refine gate_dst (N := 23) rfl ?_); refine Kd.R_lit k55 _ 55 ?hg (N := 23) ?hd (xs := ([] : List (S55))) (inner := []) (ok := fun _ => True) (okp := fun _ => True) ?hr ?hp (fun _ hk => hk) trivial (Below.refl _ _) (Nat.le_refl _) (by simp) ?_; (case hd => rfl); (case hg => rfl); (case hr => first | (go_simp; done) | (go_simp; rfl)); (case hp => exact (Reps.none _ _)); intro v356 w70 ho71 hb hg_ hnew_; clear hg_ hnew_; (first | rw [← Ny355.out] at ho71 | (simp only [Int.reduceToNat] at ho71; rw [← Ny355.out] at ho71)); have n0_ := Aside0.mk (Kd.R_lower ho71 (below_size bz_)); have n1_ := Aside0.mk (below_step bz_ hb); clear HB; have HO357 := n0_; have HB := n1_; clear n0_ n1_; clear hb ho71))
   go_ret2
   exact ⟨_, xz_, nz_, bz_⟩

end Go.Proofs.YtnapcfpecpgdbaaDoor.M
