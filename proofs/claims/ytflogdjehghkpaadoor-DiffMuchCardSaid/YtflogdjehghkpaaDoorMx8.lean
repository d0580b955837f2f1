/- The program's functions as plain functions, and that each call comes to what these tell; written by a program of this session, some contracts by hand. Conditions: none. -/
import Derived.Test.YtflogdjehghkpaaDoorMx0
import Derived.Test.YtflogdjehghkpaaDoorMx1
import Derived.Test.YtflogdjehghkpaaDoorMx4
import Derived.Test.YtflogdjehghkpaaDoorMx5
import Derived.Test.YtflogdjehghkpaaDoorMx7
namespace Go.Proofs.YtflogdjehghkpaaDoor.M
open Go.RowKit Go.Proofs.YtflogdjehghkpaaDoorW.PrintWords Go.Proofs.YtflogdjehghkpaaDoorW.PrintLast Go.Proofs.YtflogdjehghkpaaDoorW.PrintMore
attribute [local go_sem] max2_int min2_int max_two min_two max_three min_three max_four min_four   -- for this text's walks alone
set_option linter.unusedVariables false
set_option linter.unusedSimpArgs false

attribute [local go_sem high] eqA34
/-! ### pollardlaw18_DiffPairs: function 4 -/
mutual
def pollardlaw18_DiffPairs.j0 : Nat → List (S35) → List (S34) → Bool → Option (Bool)
  | 0, _, _, _ => none
  | k + 1, x7, x9, x36 => if x36 = true then (some false) else (pollardlaw18_DiffPairs.l0 k x7 x9 0)
def pollardlaw18_DiffPairs.l0 : Nat → List (S35) → List (S34) → Int → Option (Bool)
  | 0, _, _, _ => none
  | k + 1, x7, x9, x10 => if x10 < (x9.length : Int) then (if 0 ≤ x10 then (if x10 < (x7.length : Int) then (if (!(((rd_T35 x7 x10).f0) == ((rd_T34 x9 x10).f0)) || (!(((rd_T35 x7 x10).f1) == ((rd_T34 x9 x10).f1)))) = true then (some false) else (pollardlaw18_DiffPairs.l0 k x7 x9 (wrap64 (x10 + 1)))) else (none)) else (none)) else (some true)
end
def pollardlaw18_DiffPairs.f (k : Nat) (l0 : List ByteArray) (l1 : List ByteArray) : Option (Bool) := (pollardlaw18_Cut.f l0).bind fun t176 => ((pollardlaw18_Cut.f l1).bind fun t179 => ((diff_Pairs.f k t176 t179).bind fun bt182 => ((pollardref18_Pairs.f k t176 t179).bind fun t186 => ((pollardlaw18_awake.f k).bind fun t189 => (if t189 = true then (if bt182.2 = 0 then (pollardlaw18_DiffPairs.j0 k bt182.1 t186 ((bt182.1.length : Int) != (t186.length : Int))) else (pollardlaw18_DiffPairs.j0 k bt182.1 t186 true)) else (pollardlaw18_DiffPairs.j0 k bt182.1 t186 true))))))
theorem pollardlaw18_DiffPairs.mono_l : ∀ k, (∀ y0 y1 y2, LeO (pollardlaw18_DiffPairs.j0 k y0 y1 y2) (pollardlaw18_DiffPairs.j0 (k + 1) y0 y1 y2)) ∧ (∀ y0 y1 y2, LeO (pollardlaw18_DiffPairs.l0 k y0 y1 y2) (pollardlaw18_DiffPairs.l0 (k + 1) y0 y1 y2))
  | 0 => ⟨fun _ _ _ r h => by simp [pollardlaw18_DiffPairs.j0] at h, fun _ _ _ r h => by simp [pollardlaw18_DiffPairs.l0] at h⟩
  | k + 1 => by
    obtain ⟨ih0, ih1⟩ := pollardlaw18_DiffPairs.mono_l k
    refine ⟨?_, ?_⟩
    · intro y0 y1 y2
      unfold pollardlaw18_DiffPairs.j0
      repeat' first
      | (with_reducible exact ih0 _ _ _)
      | (with_reducible exact ih1 _ _ _)
      | (with_reducible exact diff_Pairs.mono _ _ _)
      | (with_reducible exact pollardlaw18_awake.mono _)
      | (with_reducible exact pollardref18_Pairs.mono _ _ _)
      | (with_reducible exact LeO.refl _)
      | (with_reducible exact LeO.none _)
      | (with_reducible refine LeO.ite ?_ ?_)
      | (with_reducible refine LeO.bind ?_ (fun _ => ?_))
      | exact ih0 _ _ _
      | exact ih1 _ _ _
      | exact diff_Pairs.mono _ _ _
      | exact pollardlaw18_awake.mono _
      | exact pollardref18_Pairs.mono _ _ _
      | exact LeO.none _
      | refine LeO.ite ?_ ?_
      | refine LeO.bind ?_ (fun _ => ?_)
    · intro y0 y1 y2
      unfold pollardlaw18_DiffPairs.l0
      repeat' first
      | (with_reducible exact ih0 _ _ _)
      | (with_reducible exact ih1 _ _ _)
      | (with_reducible exact diff_Pairs.mono _ _ _)
      | (with_reducible exact pollardlaw18_awake.mono _)
      | (with_reducible exact pollardref18_Pairs.mono _ _ _)
      | (with_reducible exact LeO.refl _)
      | (with_reducible exact LeO.none _)
      | (with_reducible refine LeO.ite ?_ ?_)
      | (with_reducible refine LeO.bind ?_ (fun _ => ?_))
      | exact ih0 _ _ _
      | exact ih1 _ _ _
      | exact diff_Pairs.mono _ _ _
      | exact pollardlaw18_awake.mono _
      | exact pollardref18_Pairs.mono _ _ _
      | exact LeO.none _
      | refine LeO.ite ?_ ?_
      | refine LeO.bind ?_ (fun _ => ?_)
theorem pollardlaw18_DiffPairs.mono : ∀ a0 a1 k, LeO (pollardlaw18_DiffPairs.f k a0 a1) (pollardlaw18_DiffPairs.f (k + 1) a0 a1) := by
  intro a0 a1 k
  obtain ⟨ih0, ih1⟩ := pollardlaw18_DiffPairs.mono_l k
  unfold pollardlaw18_DiffPairs.f
  repeat' first
      | (with_reducible exact ih0 _ _ _)
      | (with_reducible exact ih1 _ _ _)
      | (with_reducible exact diff_Pairs.mono _ _ _)
      | (with_reducible exact pollardlaw18_awake.mono _)
      | (with_reducible exact pollardref18_Pairs.mono _ _ _)
      | (with_reducible exact LeO.refl _)
      | (with_reducible exact LeO.none _)
      | (with_reducible refine LeO.ite ?_ ?_)
      | (with_reducible refine LeO.bind ?_ (fun _ => ?_))
      | exact ih0 _ _ _
      | exact ih1 _ _ _
      | exact diff_Pairs.mono _ _ _
      | exact pollardlaw18_awake.mono _
      | exact pollardref18_Pairs.mono _ _ _
      | exact LeO.none _
      | refine LeO.ite ?_ ?_
      | refine LeO.bind ?_ (fun _ => ?_)
set_option maxHeartbeats 8000000 in
set_option maxRecDepth 100000 in
theorem pollardlaw18_DiffPairs.calls (k : Nat) (A0 : Option Addr) (c0 : Nat) (l0 : List ByteArray) (A1 : Option Addr) (c1 : Nat) (l1 : List ByteArray) (r : Bool) (w : World) (hr0 : Kd.C Kd.string w A0 l0.length l0) (hc0 : l0.length ≤ c0) (hr1 : Kd.C Kd.string w A1 l1.length l1) (hc1 : l1.length ≤ c1) (h : pollardlaw18_DiffPairs.f k l0 l1 = some r) :
    Calls Tryd.prog 4 #[.slice A0 l0.length c0, .slice A1 l1.length c1] w fun e w' => e = .returned (.bool r) ∧ Below w.heap.size w w' := by
  have hu35 := Tryd.underlying35
  have hu34 := Tryd.underlying34
  have HR0 := Aside0.mk hr0
  have HC0 := Aside0.mk hc0
  clear hr0 hc0
  have HR1 := Aside0.mk hr1
  have HC1 := Aside0.mk hc1
  clear hr1 hc1
  have HB := Aside0.mk (Below.refl w.heap.size w)
  have H : ((pollardlaw18_Cut.f l0).bind fun t176 => ((pollardlaw18_Cut.f l1).bind fun t179 => ((diff_Pairs.f k t176 t179).bind fun bt182 => ((pollardref18_Pairs.f k t176 t179).bind fun t186 => ((pollardlaw18_awake.f k).bind fun t189 => (if t189 = true then (if bt182.2 = 0 then (pollardlaw18_DiffPairs.j0 k bt182.1 t186 ((bt182.1.length : Int) != (t186.length : Int))) else (pollardlaw18_DiffPairs.j0 k bt182.1 t186 true)) else (pollardlaw18_DiffPairs.j0 k bt182.1 t186 true))))))) = some r := h
  clear h
  replace H := Option.bind_eq_some_iff.mp H
  obtain ⟨t176, A30, H⟩ := H
  replace H : ((pollardlaw18_Cut.f l1).bind fun t179 => ((diff_Pairs.f k t176 t179).bind fun bt182 => ((pollardref18_Pairs.f k t176 t179).bind fun t186 => ((pollardlaw18_awake.f k).bind fun t189 => (if t189 = true then (if bt182.2 = 0 then (pollardlaw18_DiffPairs.j0 k bt182.1 t186 ((bt182.1.length : Int) != (t186.length : Int))) else (pollardlaw18_DiffPairs.j0 k bt182.1 t186 true)) else (pollardlaw18_DiffPairs.j0 k bt182.1 t186 true)))))) = some r := H
  have A3 := Aside0.mk A30
  clear A30
  replace H := Option.bind_eq_some_iff.mp H
  obtain ⟨t179, A40, H⟩ := H
  replace H : ((diff_Pairs.f k t176 t179).bind fun bt182 => ((pollardref18_Pairs.f k t176 t179).bind fun t186 => ((pollardlaw18_awake.f k).bind fun t189 => (if t189 = true then (if bt182.2 = 0 then (pollardlaw18_DiffPairs.j0 k bt182.1 t186 ((bt182.1.length : Int) != (t186.length : Int))) else (pollardlaw18_DiffPairs.j0 k bt182.1 t186 true)) else (pollardlaw18_DiffPairs.j0 k bt182.1 t186 true))))) = some r := H
  have A4 := Aside0.mk A40
  clear A40
  replace H := Option.bind_eq_some_iff.mp H
  obtain ⟨⟨t182, t183⟩, A50, H⟩ := H
  replace H : ((pollardref18_Pairs.f k t176 t179).bind fun t186 => ((pollardlaw18_awake.f k).bind fun t189 => (if t189 = true then (if t183 = 0 then (pollardlaw18_DiffPairs.j0 k t182 t186 ((t182.length : Int) != (t186.length : Int))) else (pollardlaw18_DiffPairs.j0 k t182 t186 true)) else (pollardlaw18_DiffPairs.j0 k t182 t186 true)))) = some r := H
  have A5 := Aside0.mk A50
  clear A50
  replace H := Option.bind_eq_some_iff.mp H
  obtain ⟨t186, A60, H⟩ := H
  replace H : ((pollardlaw18_awake.f k).bind fun t189 => (if t189 = true then (if t183 = 0 then (pollardlaw18_DiffPairs.j0 k t182 t186 ((t182.length : Int) != (t186.length : Int))) else (pollardlaw18_DiffPairs.j0 k t182 t186 true)) else (pollardlaw18_DiffPairs.j0 k t182 t186 true))) = some r := H
  have A6 := Aside0.mk A60
  clear A60
  have HC7 := Aside0.mk H
  clear H
  go_enter Tryd.func4, Tryd.ntmps4
  go_upto_region 4 with (first | (go_at_call 11; (with_reducible refine (pollardlaw18_Cut.calls (fun k_ => k_ < w.heap.size) _ _ l0 t176 _ ?side1 A3.out).mono ?_); (case side1 => exact Kd.V_mk HC0.out (Kd.F_below (Kd.C_F Kd.heap_string HR0.out) (by repeat (first | (with_reducible first | exact HB.out | apply below_alloc | apply pw_below_drewN | apply below_drew1) | exact HB.out)))); rintro e w8 ⟨v177, rfl, ho0, hb⟩; have n0_ := Aside0.mk (Kd.V_lower (Kd.V_mono (ok' := fun k_ => True) ho0 (fun k_ hk_ => trivial)) (below_size (by repeat (first | (with_reducible first | exact HB.out | apply below_alloc | apply pw_below_drewN | apply below_drew1) | exact HB.out)))); have n1_ := Aside0.mk (below_step (by repeat (first | (with_reducible first | exact HB.out | apply below_alloc | apply pw_below_drewN | apply below_drew1) | exact HB.out)) hb); clear HB; have HO178 := n0_; have HB := n1_; clear n0_ n1_; (try clear hb); (try clear hb2); (try clear hk); (try clear hi); (try clear ho0)) | (go_at_call 11; (with_reducible refine (pollardlaw18_Cut.calls (fun k_ => k_ < w.heap.size) _ _ l1 t179 _ ?side1 A4.out).mono ?_); (case side1 => exact Kd.V_mk HC1.out (Kd.F_below (Kd.C_F Kd.heap_string HR1.out) (by repeat (first | (with_reducible first | exact HB.out | apply below_alloc | apply pw_below_drewN | apply below_drew1) | exact HB.out)))); rintro e w9 ⟨v180, rfl, ho0, hb⟩; have n0_ := Aside0.mk (Kd.V_below (by (with_reducible repeat (first | apply Kd.V_alloc | apply Kd.V_drewN | apply Kd.V_drew)); exact HO178.out) hb); have n1_ := Aside0.mk (Kd.V_lower (Kd.V_mono (ok' := fun k_ => True) ho0 (fun k_ hk_ => trivial)) (below_size (by repeat (first | (with_reducible first | exact HB.out | apply below_alloc | apply pw_below_drewN | apply below_drew1) | exact HB.out)))); have n2_ := Aside0.mk (below_step (by repeat (first | (with_reducible first | exact HB.out | apply below_alloc | apply pw_below_drewN | apply below_drew1) | exact HB.out)) hb); clear HO178; clear HB; have HO178 := n0_; have HO181 := n1_; have HB := n2_; clear n0_ n1_ n2_; (try clear hb); (try clear hb2); (try clear hk); (try clear hi); (try clear ho0); obtain ⟨Ao10, co10, eo10⟩ := Kd.V_slice HO178.out; subst eo10; obtain ⟨Ao11, co11, eo11⟩ := Kd.V_slice HO181.out; subst eo11) | (go_at_call 12; (with_reducible refine (diff_Pairs.calls k _ _ t176 _ _ t179 t182 t183 _ ?side1 ?side2 ?side3 ?side4 A5.out).mono ?_); (case side1 => repeat (first | exact (Kd.V_reads' HO178.out).2.2 | (with_reducible refine Kd.C_alloc ?_ _) | (with_reducible refine Kd.C_drewN ?_ _) | (with_reducible refine Kd.C_drew ?_))); (case side2 => exact (Kd.V_reads' HO178.out).2.1); (case side3 => repeat (first | exact (Kd.V_reads' HO181.out).2.2 | (with_reducible refine Kd.C_alloc ?_ _) | (with_reducible refine Kd.C_drewN ?_ _) | (with_reducible refine Kd.C_drew ?_))); (case side4 => exact (Kd.V_reads' HO181.out).2.1); rintro e w12 ⟨v184, rfl, ho0, hb⟩; have n0_ := Aside0.mk (Kd.V_elder' (by (with_reducible repeat (first | apply Kd.V_alloc | apply Kd.V_drewN | apply Kd.V_drew)); exact HO178.out) (Kd.R_base ho0) hb); have n1_ := Aside0.mk (Kd.V_elder' (by (with_reducible repeat (first | apply Kd.V_alloc | apply Kd.V_drewN | apply Kd.V_drew)); exact HO181.out) (Kd.R_base ho0) hb); have n2_ := Aside0.mk (Kd.R_lower ho0 (below_size (by repeat (first | (with_reducible first | exact HB.out | apply below_alloc | apply pw_below_drewN | apply below_drew1) | exact HB.out)))); have n3_ := Aside0.mk (below_step (by repeat (first | (with_reducible first | exact HB.out | apply below_alloc | apply pw_below_drewN | apply below_drew1) | exact HB.out)) hb); clear HO178; clear HO181; clear HB; have HO178 := n0_; have HO181 := n1_; have HO185 := n2_; have HB := n3_; clear n0_ n1_ n2_ n3_; (try clear hb); (try clear hb2); (try clear hk); (try clear hi); (try clear ho0)) | (go_at_call 13; (with_reducible refine (pollardref18_Pairs.calls k _ _ t176 _ _ t179 t186 _ ?side1 ?side2 ?side3 ?side4 A6.out).mono ?_); (case side1 => repeat (first | exact (Kd.V_reads' HO178.out).2.2 | (with_reducible refine Kd.C_alloc ?_ _) | (with_reducible refine Kd.C_drewN ?_ _) | (with_reducible refine Kd.C_drew ?_))); (case side2 => exact (Kd.V_reads' HO178.out).2.1); (case side3 => repeat (first | exact (Kd.V_reads' HO181.out).2.2 | (with_reducible refine Kd.C_alloc ?_ _) | (with_reducible refine Kd.C_drewN ?_ _) | (with_reducible refine Kd.C_drew ?_))); (case side4 => exact (Kd.V_reads' HO181.out).2.1); rintro e w13 ⟨v187, rfl, ho0, hb⟩; have n0_ := Aside0.mk (Kd.V_elder' (by (with_reducible repeat (first | apply Kd.V_alloc | apply Kd.V_drewN | apply Kd.V_drew)); exact HO178.out) (Kd.R_base ho0) hb); have n1_ := Aside0.mk (Kd.V_elder' (by (with_reducible repeat (first | apply Kd.V_alloc | apply Kd.V_drewN | apply Kd.V_drew)); exact HO181.out) (Kd.R_base ho0) hb); have n2_ := Aside0.mk (Kd.R_below (by (with_reducible repeat (first | apply Kd.R_alloc | apply Kd.R_drewN | apply Kd.R_drew)); exact HO185.out) hb); have n3_ := Aside0.mk (Kd.R_lower ho0 (below_size (by repeat (first | (with_reducible first | exact HB.out | apply below_alloc | apply pw_below_drewN | apply below_drew1) | exact HB.out)))); have n4_ := Aside0.mk (below_step (by repeat (first | (with_reducible first | exact HB.out | apply below_alloc | apply pw_below_drewN | apply below_drew1) | exact HB.out)) hb); clear HO178; clear HO181; clear HO185; clear HB; have HO178 := n0_; have HO181 := n1_; have HO185 := n2_; have HO188 := n3_; have HB := n4_; clear n0_ n1_ n2_ n3_ n4_; (try clear hb); (try clear hb2); (try clear hk); (try clear hi); (try clear ho0)))
  repeat (go_quiet (first | (go_at_call 11; (with_reducible refine (pollardlaw18_Cut.calls (fun k_ => k_ < w.heap.size) _ _ l0 t176 _ ?side1 A3.out).mono ?_); (case side1 => exact Kd.V_mk HC0.out (Kd.F_below (Kd.C_F Kd.heap_string HR0.out) (by repeat (first | (with_reducible first | exact HB.out | apply below_alloc | apply pw_below_drewN | apply below_drew1) | exact HB.out)))); rintro e w8 ⟨v177, rfl, ho0, hb⟩; have n0_ := Aside0.mk (Kd.V_lower (Kd.V_mono (ok' := fun k_ => True) ho0 (fun k_ hk_ => trivial)) (below_size (by repeat (first | (with_reducible first | exact HB.out | apply below_alloc | apply pw_below_drewN | apply below_drew1) | exact HB.out)))); have n1_ := Aside0.mk (below_step (by repeat (first | (with_reducible first | exact HB.out | apply below_alloc | apply pw_below_drewN | apply below_drew1) | exact HB.out)) hb); clear HB; have HO178 := n0_; have HB := n1_; clear n0_ n1_; (try clear hb); (try clear hb2); (try clear hk); (try clear hi); (try clear ho0)) | (go_at_call 11; (with_reducible refine (pollardlaw18_Cut.calls (fun k_ => k_ < w.heap.size) _ _ l1 t179 _ ?side1 A4.out).mono ?_); (case side1 => exact Kd.V_mk HC1.out (Kd.F_below (Kd.C_F Kd.heap_string HR1.out) (by repeat (first | (with_reducible first | exact HB.out | apply below_alloc | apply pw_below_drewN | apply below_drew1) | exact HB.out)))); rintro e w9 ⟨v180, rfl, ho0, hb⟩; have n0_ := Aside0.mk (Kd.V_below (by (with_reducible repeat (first | apply Kd.V_alloc | apply Kd.V_drewN | apply Kd.V_drew)); exact HO178.out) hb); have n1_ := Aside0.mk (Kd.V_lower (Kd.V_mono (ok' := fun k_ => True) ho0 (fun k_ hk_ => trivial)) (below_size (by repeat (first | (with_reducible first | exact HB.out | apply below_alloc | apply pw_below_drewN | apply below_drew1) | exact HB.out)))); have n2_ := Aside0.mk (below_step (by repeat (first | (with_reducible first | exact HB.out | apply below_alloc | apply pw_below_drewN | apply below_drew1) | exact HB.out)) hb); clear HO178; clear HB; have HO178 := n0_; have HO181 := n1_; have HB := n2_; clear n0_ n1_ n2_; (try clear hb); (try clear hb2); (try clear hk); (try clear hi); (try clear ho0); obtain ⟨Ao10, co10, eo10⟩ := Kd.V_slice HO178.out; subst eo10; obtain ⟨Ao11, co11, eo11⟩ := Kd.V_slice HO181.out; subst eo11) | (go_at_call 12; (with_reducible refine (diff_Pairs.calls k _ _ t176 _ _ t179 t182 t183 _ ?side1 ?side2 ?side3 ?side4 A5.out).mono ?_); (case side1 => repeat (first | exact (Kd.V_reads' HO178.out).2.2 | (with_reducible refine Kd.C_alloc ?_ _) | (with_reducible refine Kd.C_drewN ?_ _) | (with_reducible refine Kd.C_drew ?_))); (case side2 => exact (Kd.V_reads' HO178.out).2.1); (case side3 => repeat (first | exact (Kd.V_reads' HO181.out).2.2 | (with_reducible refine Kd.C_alloc ?_ _) | (with_reducible refine Kd.C_drewN ?_ _) | (with_reducible refine Kd.C_drew ?_))); (case side4 => exact (Kd.V_reads' HO181.out).2.1); rintro e w12 ⟨v184, rfl, ho0, hb⟩; have n0_ := Aside0.mk (Kd.V_elder' (by (with_reducible repeat (first | apply Kd.V_alloc | apply Kd.V_drewN | apply Kd.V_drew)); exact HO178.out) (Kd.R_base ho0) hb); have n1_ := Aside0.mk (Kd.V_elder' (by (with_reducible repeat (first | apply Kd.V_alloc | apply Kd.V_drewN | apply Kd.V_drew)); exact HO181.out) (Kd.R_base ho0) hb); have n2_ := Aside0.mk (Kd.R_lower ho0 (below_size (by repeat (first | (with_reducible first | exact HB.out | apply below_alloc | apply pw_below_drewN | apply below_drew1) | exact HB.out)))); have n3_ := Aside0.mk (below_step (by repeat (first | (with_reducible first | exact HB.out | apply below_alloc | apply pw_below_drewN | apply below_drew1) | exact HB.out)) hb); clear HO178; clear HO181; clear HB; have HO178 := n0_; have HO181 := n1_; have HO185 := n2_; have HB := n3_; clear n0_ n1_ n2_ n3_; (try clear hb); (try clear hb2); (try clear hk); (try clear hi); (try clear ho0)) | (go_at_call 13; (with_reducible refine (pollardref18_Pairs.calls k _ _ t176 _ _ t179 t186 _ ?side1 ?side2 ?side3 ?side4 A6.out).mono ?_); (case side1 => repeat (first | exact (Kd.V_reads' HO178.out).2.2 | (with_reducible refine Kd.C_alloc ?_ _) | (with_reducible refine Kd.C_drewN ?_ _) | (with_reducible refine Kd.C_drew ?_))); (case side2 => exact (Kd.V_reads' HO178.out).2.1); (case side3 => repeat (first | exact (Kd.V_reads' HO181.out).2.2 | (with_reducible refine Kd.C_alloc ?_ _) | (with_reducible refine Kd.C_drewN ?_ _) | (with_reducible refine Kd.C_drew ?_))); (case side4 => exact (Kd.V_reads' HO181.out).2.1); rintro e w13 ⟨v187, rfl, ho0, hb⟩; have n0_ := Aside0.mk (Kd.V_elder' (by (with_reducible repeat (first | apply Kd.V_alloc | apply Kd.V_drewN | apply Kd.V_drew)); exact HO178.out) (Kd.R_base ho0) hb); have n1_ := Aside0.mk (Kd.V_elder' (by (with_reducible repeat (first | apply Kd.V_alloc | apply Kd.V_drewN | apply Kd.V_drew)); exact HO181.out) (Kd.R_base ho0) hb); have n2_ := Aside0.mk (Kd.R_below (by (with_reducible repeat (first | apply Kd.R_alloc | apply Kd.R_drewN | apply Kd.R_drew)); exact HO185.out) hb); have n3_ := Aside0.mk (Kd.R_lower ho0 (below_size (by repeat (first | (with_reducible first | exact HB.out | apply below_alloc | apply pw_below_drewN | apply below_drew1) | exact HB.out)))); have n4_ := Aside0.mk (below_step (by repeat (first | (with_reducible first | exact HB.out | apply below_alloc | apply pw_below_drewN | apply below_drew1) | exact HB.out)) hb); clear HO178; clear HO181; clear HO185; clear HB; have HO178 := n0_; have HO181 := n1_; have HO185 := n2_; have HO188 := n3_; have HB := n4_; clear n0_ n1_ n2_ n3_ n4_; (try clear hb); (try clear hb2); (try clear hk); (try clear hi); (try clear ho0))); go_upto_region 4 with (first | (go_at_call 11; (with_reducible refine (pollardlaw18_Cut.calls (fun k_ => k_ < w.heap.size) _ _ l0 t176 _ ?side1 A3.out).mono ?_); (case side1 => exact Kd.V_mk HC0.out (Kd.F_below (Kd.C_F Kd.heap_string HR0.out) (by repeat (first | (with_reducible first | exact HB.out | apply below_alloc | apply pw_below_drewN | apply below_drew1) | exact HB.out)))); rintro e w8 ⟨v177, rfl, ho0, hb⟩; have n0_ := Aside0.mk (Kd.V_lower (Kd.V_mono (ok' := fun k_ => True) ho0 (fun k_ hk_ => trivial)) (below_size (by repeat (first | (with_reducible first | exact HB.out | apply below_alloc | apply pw_below_drewN | apply below_drew1) | exact HB.out)))); have n1_ := Aside0.mk (below_step (by repeat (first | (with_reducible first | exact HB.out | apply below_alloc | apply pw_below_drewN | apply below_drew1) | exact HB.out)) hb); clear HB; have HO178 := n0_; have HB := n1_; clear n0_ n1_; (try clear hb); (try clear hb2); (try clear hk); (try clear hi); (try clear ho0)) | (go_at_call 11; (with_reducible refine (pollardlaw18_Cut.calls (fun k_ => k_ < w.heap.size) _ _ l1 t179 _ ?side1 A4.out).mono ?_); (case side1 => exact Kd.V_mk HC1.out (Kd.F_below (Kd.C_F Kd.heap_string HR1.out) (by repeat (first | (with_reducible first | exact HB.out | apply below_alloc | apply pw_below_drewN | apply below_drew1) | exact HB.out)))); rintro e w9 ⟨v180, rfl, ho0, hb⟩; have n0_ := Aside0.mk (Kd.V_below (by (with_reducible repeat (first | apply Kd.V_alloc | apply Kd.V_drewN | apply Kd.V_drew)); exact HO178.out) hb); have n1_ := Aside0.mk (Kd.V_lower (Kd.V_mono (ok' := fun k_ => True) ho0 (fun k_ hk_ => trivial)) (below_size (by repeat (first | (with_reducible first | exact HB.out | apply below_alloc | apply pw_below_drewN | apply below_drew1) | exact HB.out)))); have n2_ := Aside0.mk (below_step (by repeat (first | (with_reducible first | exact HB.out | apply below_alloc | apply pw_below_drewN | apply below_drew1) | exact HB.out)) hb); clear HO178; clear HB; have HO178 := n0_; have HO181 := n1_; have HB := n2_; clear n0_ n1_ n2_; (try clear hb); (try clear hb2); (try clear hk); (try clear hi); (try clear ho0); obtain ⟨Ao10, co10, eo10⟩ := Kd.V_slice HO178.out; subst eo10; obtain ⟨Ao11, co11, eo11⟩ := Kd.V_slice HO181.out; subst eo11) | (go_at_call 12; (with_reducible refine (diff_Pairs.calls k _ _ t176 _ _ t179 t182 t183 _ ?side1 ?side2 ?side3 ?side4 A5.out).mono ?_); (case side1 => repeat (first | exact (Kd.V_reads' HO178.out).2.2 | (with_reducible refine Kd.C_alloc ?_ _) | (with_reducible refine Kd.C_drewN ?_ _) | (with_reducible refine Kd.C_drew ?_))); (case side2 => exact (Kd.V_reads' HO178.out).2.1); (case side3 => repeat (first | exact (Kd.V_reads' HO181.out).2.2 | (with_reducible refine Kd.C_alloc ?_ _) | (with_reducible refine Kd.C_drewN ?_ _) | (with_reducible refine Kd.C_drew ?_))); (case side4 => exact (Kd.V_reads' HO181.out).2.1); rintro e w12 ⟨v184, rfl, ho0, hb⟩; have n0_ := Aside0.mk (Kd.V_elder' (by (with_reducible repeat (first | apply Kd.V_alloc | apply Kd.V_drewN | apply Kd.V_drew)); exact HO178.out) (Kd.R_base ho0) hb); have n1_ := Aside0.mk (Kd.V_elder' (by (with_reducible repeat (first | apply Kd.V_alloc | apply Kd.V_drewN | apply Kd.V_drew)); exact HO181.out) (Kd.R_base ho0) hb); have n2_ := Aside0.mk (Kd.R_lower ho0 (below_size (by repeat (first | (with_reducible first | exact HB.out | apply below_alloc | apply pw_below_drewN | apply below_drew1) | exact HB.out)))); have n3_ := Aside0.mk (below_step (by repeat (first | (with_reducible first | exact HB.out | apply below_alloc | apply pw_below_drewN | apply below_drew1) | exact HB.out)) hb); clear HO178; clear HO181; clear HB; have HO178 := n0_; have HO181 := n1_; have HO185 := n2_; have HB := n3_; clear n0_ n1_ n2_ n3_; (try clear hb); (try clear hb2); (try clear hk); (try clear hi); (try clear ho0)) | (go_at_call 13; (with_reducible refine (pollardref18_Pairs.calls k _ _ t176 _ _ t179 t186 _ ?side1 ?side2 ?side3 ?side4 A6.out).mono ?_); (case side1 => repeat (first | exact (Kd.V_reads' HO178.out).2.2 | (with_reducible refine Kd.C_alloc ?_ _) | (with_reducible refine Kd.C_drewN ?_ _) | (with_reducible refine Kd.C_drew ?_))); (case side2 => exact (Kd.V_reads' HO178.out).2.1); (case side3 => repeat (first | exact (Kd.V_reads' HO181.out).2.2 | (with_reducible refine Kd.C_alloc ?_ _) | (with_reducible refine Kd.C_drewN ?_ _) | (with_reducible refine Kd.C_drew ?_))); (case side4 => exact (Kd.V_reads' HO181.out).2.1); rintro e w13 ⟨v187, rfl, ho0, hb⟩; have n0_ := Aside0.mk (Kd.V_elder' (by (with_reducible repeat (first | apply Kd.V_alloc | apply Kd.V_drewN | apply Kd.V_drew)); exact HO178.out) (Kd.R_base ho0) hb); have n1_ := Aside0.mk (Kd.V_elder' (by (with_reducible repeat (first | apply Kd.V_alloc | apply Kd.V_drewN | apply Kd.V_drew)); exact HO181.out) (Kd.R_base ho0) hb); have n2_ := Aside0.mk (Kd.R_below (by (with_reducible repeat (first | apply Kd.R_alloc | apply Kd.R_drewN | apply Kd.R_drew)); exact HO185.out) hb); have n3_ := Aside0.mk (Kd.R_lower ho0 (below_size (by repeat (first | (with_reducible first | exact HB.out | apply below_alloc | apply pw_below_drewN | apply below_drew1) | exact HB.out)))); have n4_ := Aside0.mk (below_step (by repeat (first | (with_reducible first | exact HB.out | apply below_alloc | apply pw_below_drewN | apply below_drew1) | exact HB.out)) hb); clear HO178; clear HO181; clear HO185; clear HB; have HO178 := n0_; have HO181 := n1_; have HO185 := n2_; have HO188 := n3_; have HB := n4_; clear n0_ n1_ n2_ n3_ n4_; (try clear hb); (try clear hb2); (try clear hk); (try clear hi); (try clear ho0))))
  (try simp only [Act.put, List.setIfInBounds_toArray, List.set_cons_zero, List.set_cons_succ])
  go_cut [36] (fun v36 wc => ∃ (kq : Nat) (x36_6 : Bool), v36 = .bool x36_6 ∧ Aside0 (pollardlaw18_DiffPairs.j0 kq t182 t186 x36_6 = some r) ∧ Aside0 (kq ≤ k) ∧ Aside0 (Kd.R k35 35 wc w.heap.size (fun _ => True) v184 t182) ∧ Aside0 (Kd.R k34 34 wc w.heap.size (fun _ => True) v187 t186) ∧ Aside0 (Below w.heap.size w wc))
  case first =>
    have H := HC7.out
    clear HC7
    replace H := Option.bind_eq_some_iff.mp H
    obtain ⟨t189, A140, H⟩ := H
    replace H : (if t189 = true then (if t183 = 0 then (pollardlaw18_DiffPairs.j0 k t182 t186 ((t182.length : Int) != (t186.length : Int))) else (pollardlaw18_DiffPairs.j0 k t182 t186 true)) else (pollardlaw18_DiffPairs.j0 k t182 t186 true)) = some r := H
    have A14 := Aside0.mk A140
    clear A140
    by_cases c15 : t189 = true
    · subst c15
      have H1 : (if t183 = 0 then (pollardlaw18_DiffPairs.j0 k t182 t186 ((t182.length : Int) != (t186.length : Int))) else (pollardlaw18_DiffPairs.j0 k t182 t186 true)) = some r := by rw [if_pos rfl] at H; exact H
      clear H
      have H := H1
      clear H1
      by_cases c16 : t183 = 0
      · rw [if_pos c16] at H
        have c16b0 : (t183 == 0) = true := beq_iff_eq.mpr c16
        have c16b1 : (t183 != 0) = false := bne_eq_false_iff_eq.mpr c16
        clear c16
        (first | rw [c16b0] | (simp only [i64_w, i32_w]; rw [c16b0]) | skip)
        have H' := Aside0.mk H
        clear H
        go_wp2_with (first | (go_at_call 10; (with_reducible refine (pollardlaw18_awake.calls k  true _ A14.out).mono ?_); rintro e w17 ⟨rfl, hb⟩; have n0_ := Aside0.mk (Kd.V_below (by (with_reducible repeat (first | apply Kd.V_alloc | apply Kd.V_drewN | apply Kd.V_drew)); exact HO178.out) hb); have n1_ := Aside0.mk (Kd.V_below (by (with_reducible repeat (first | apply Kd.V_alloc | apply Kd.V_drewN | apply Kd.V_drew)); exact HO181.out) hb); have n2_ := Aside0.mk (Kd.R_below (by (with_reducible repeat (first | apply Kd.R_alloc | apply Kd.R_drewN | apply Kd.R_drew)); exact HO185.out) hb); have n3_ := Aside0.mk (Kd.R_below (by (with_reducible repeat (first | apply Kd.R_alloc | apply Kd.R_drewN | apply Kd.R_drew)); exact HO188.out) hb); have n4_ := Aside0.mk (below_step (by repeat (first | (with_reducible first | exact HB.out | apply below_alloc | apply pw_below_drewN | apply below_drew1) | exact HB.out)) hb); clear HO178; clear HO181; clear HO185; clear HO188; clear HB; have HO178 := n0_; have HO181 := n1_; have HO185 := n2_; have HO188 := n3_; have HB := n4_; clear n0_ n1_ n2_ n3_ n4_; (try clear hb); (try clear hb2); (try clear hk); (try clear hi); obtain ⟨Ao18, co18, eo18⟩ := Kd.R_slice HO185.out; subst eo18; obtain ⟨Ao19, co19, eo19⟩ := Kd.R_slice HO188.out; subst eo19))
        repeat (go_quiet (first | (go_at_call 10; (with_reducible refine (pollardlaw18_awake.calls k  true _ A14.out).mono ?_); rintro e w17 ⟨rfl, hb⟩; have n0_ := Aside0.mk (Kd.V_below (by (with_reducible repeat (first | apply Kd.V_alloc | apply Kd.V_drewN | apply Kd.V_drew)); exact HO178.out) hb); have n1_ := Aside0.mk (Kd.V_below (by (with_reducible repeat (first | apply Kd.V_alloc | apply Kd.V_drewN | apply Kd.V_drew)); exact HO181.out) hb); have n2_ := Aside0.mk (Kd.R_below (by (with_reducible repeat (first | apply Kd.R_alloc | apply Kd.R_drewN | apply Kd.R_drew)); exact HO185.out) hb); have n3_ := Aside0.mk (Kd.R_below (by (with_reducible repeat (first | apply Kd.R_alloc | apply Kd.R_drewN | apply Kd.R_drew)); exact HO188.out) hb); have n4_ := Aside0.mk (below_step (by repeat (first | (with_reducible first | exact HB.out | apply below_alloc | apply pw_below_drewN | apply below_drew1) | exact HB.out)) hb); clear HO178; clear HO181; clear HO185; clear HO188; clear HB; have HO178 := n0_; have HO181 := n1_; have HO185 := n2_; have HO188 := n3_; have HB := n4_; clear n0_ n1_ n2_ n3_ n4_; (try clear hb); (try clear hb2); (try clear hk); (try clear hi); obtain ⟨Ao18, co18, eo18⟩ := Kd.R_slice HO185.out; subst eo18; obtain ⟨Ao19, co19, eo19⟩ := Kd.R_slice HO188.out; subst eo19)); try go_wp2_with (first | (go_at_call 10; (with_reducible refine (pollardlaw18_awake.calls k  true _ A14.out).mono ?_); rintro e w17 ⟨rfl, hb⟩; have n0_ := Aside0.mk (Kd.V_below (by (with_reducible repeat (first | apply Kd.V_alloc | apply Kd.V_drewN | apply Kd.V_drew)); exact HO178.out) hb); have n1_ := Aside0.mk (Kd.V_below (by (with_reducible repeat (first | apply Kd.V_alloc | apply Kd.V_drewN | apply Kd.V_drew)); exact HO181.out) hb); have n2_ := Aside0.mk (Kd.R_below (by (with_reducible repeat (first | apply Kd.R_alloc | apply Kd.R_drewN | apply Kd.R_drew)); exact HO185.out) hb); have n3_ := Aside0.mk (Kd.R_below (by (with_reducible repeat (first | apply Kd.R_alloc | apply Kd.R_drewN | apply Kd.R_drew)); exact HO188.out) hb); have n4_ := Aside0.mk (below_step (by repeat (first | (with_reducible first | exact HB.out | apply below_alloc | apply pw_below_drewN | apply below_drew1) | exact HB.out)) hb); clear HO178; clear HO181; clear HO185; clear HO188; clear HB; have HO178 := n0_; have HO181 := n1_; have HO185 := n2_; have HO188 := n3_; have HB := n4_; clear n0_ n1_ n2_ n3_ n4_; (try clear hb); (try clear hb2); (try clear hk); (try clear hi); obtain ⟨Ao18, co18, eo18⟩ := Kd.R_slice HO185.out; subst eo18; obtain ⟨Ao19, co19, eo19⟩ := Kd.R_slice HO188.out; subst eo19)))
        go_meet
        case rel => exact ⟨_, (((t182.length : Int) != (t186.length : Int))), (by first | rfl | (simp; done) | (simp [*]; done)), H', ⟨by first | omega | exact Nat.le_refl _⟩, ⟨by (with_reducible repeat (first | apply Kd.R_alloc | apply Kd.R_drewN | apply Kd.R_drew)); exact HO185.out⟩, ⟨by (with_reducible repeat (first | apply Kd.R_alloc | apply Kd.R_drewN | apply Kd.R_drew)); exact HO188.out⟩, ⟨by repeat (first | (with_reducible first | exact HB.out | apply below_alloc | apply pw_below_drewN | apply below_drew1) | exact HB.out)⟩⟩
      · rw [if_neg c16] at H
        have c16b0 : (t183 == 0) = false := beq_eq_false_iff_ne.mpr c16
        have c16b1 : (t183 != 0) = true := bne_iff_ne.mpr c16
        (first | rw [c16b0] | (simp only [i64_w, i32_w]; rw [c16b0]) | skip)
        have H' := Aside0.mk H
        clear H
        go_wp2_with (first | (go_at_call 10; (with_reducible refine (pollardlaw18_awake.calls k  true _ A14.out).mono ?_); rintro e w20 ⟨rfl, hb⟩; have n0_ := Aside0.mk (Kd.V_below (by (with_reducible repeat (first | apply Kd.V_alloc | apply Kd.V_drewN | apply Kd.V_drew)); exact HO178.out) hb); have n1_ := Aside0.mk (Kd.V_below (by (with_reducible repeat (first | apply Kd.V_alloc | apply Kd.V_drewN | apply Kd.V_drew)); exact HO181.out) hb); have n2_ := Aside0.mk (Kd.R_below (by (with_reducible repeat (first | apply Kd.R_alloc | apply Kd.R_drewN | apply Kd.R_drew)); exact HO185.out) hb); have n3_ := Aside0.mk (Kd.R_below (by (with_reducible repeat (first | apply Kd.R_alloc | apply Kd.R_drewN | apply Kd.R_drew)); exact HO188.out) hb); have n4_ := Aside0.mk (below_step (by repeat (first | (with_reducible first | exact HB.out | apply below_alloc | apply pw_below_drewN | apply below_drew1) | exact HB.out)) hb); clear HO178; clear HO181; clear HO185; clear HO188; clear HB; have HO178 := n0_; have HO181 := n1_; have HO185 := n2_; have HO188 := n3_; have HB := n4_; clear n0_ n1_ n2_ n3_ n4_; (try clear hb); (try clear hb2); (try clear hk); (try clear hi)))
        repeat (go_quiet (first | (go_at_call 10; (with_reducible refine (pollardlaw18_awake.calls k  true _ A14.out).mono ?_); rintro e w20 ⟨rfl, hb⟩; have n0_ := Aside0.mk (Kd.V_below (by (with_reducible repeat (first | apply Kd.V_alloc | apply Kd.V_drewN | apply Kd.V_drew)); exact HO178.out) hb); have n1_ := Aside0.mk (Kd.V_below (by (with_reducible repeat (first | apply Kd.V_alloc | apply Kd.V_drewN | apply Kd.V_drew)); exact HO181.out) hb); have n2_ := Aside0.mk (Kd.R_below (by (with_reducible repeat (first | apply Kd.R_alloc | apply Kd.R_drewN | apply Kd.R_drew)); exact HO185.out) hb); have n3_ := Aside0.mk (Kd.R_below (by (with_reducible repeat (first | apply Kd.R_alloc | apply Kd.R_drewN | apply Kd.R_drew)); exact HO188.out) hb); have n4_ := Aside0.mk (below_step (by repeat (first | (with_reducible first | exact HB.out | apply below_alloc | apply pw_below_drewN | apply below_drew1) | exact HB.out)) hb); clear HO178; clear HO181; clear HO185; clear HO188; clear HB; have HO178 := n0_; have HO181 := n1_; have HO185 := n2_; have HO188 := n3_; have HB := n4_; clear n0_ n1_ n2_ n3_ n4_; (try clear hb); (try clear hb2); (try clear hk); (try clear hi))); try go_wp2_with (first | (go_at_call 10; (with_reducible refine (pollardlaw18_awake.calls k  true _ A14.out).mono ?_); rintro e w20 ⟨rfl, hb⟩; have n0_ := Aside0.mk (Kd.V_below (by (with_reducible repeat (first | apply Kd.V_alloc | apply Kd.V_drewN | apply Kd.V_drew)); exact HO178.out) hb); have n1_ := Aside0.mk (Kd.V_below (by (with_reducible repeat (first | apply Kd.V_alloc | apply Kd.V_drewN | apply Kd.V_drew)); exact HO181.out) hb); have n2_ := Aside0.mk (Kd.R_below (by (with_reducible repeat (first | apply Kd.R_alloc | apply Kd.R_drewN | apply Kd.R_drew)); exact HO185.out) hb); have n3_ := Aside0.mk (Kd.R_below (by (with_reducible repeat (first | apply Kd.R_alloc | apply Kd.R_drewN | apply Kd.R_drew)); exact HO188.out) hb); have n4_ := Aside0.mk (below_step (by repeat (first | (with_reducible first | exact HB.out | apply below_alloc | apply pw_below_drewN | apply below_drew1) | exact HB.out)) hb); clear HO178; clear HO181; clear HO185; clear HO188; clear HB; have HO178 := n0_; have HO181 := n1_; have HO185 := n2_; have HO188 := n3_; have HB := n4_; clear n0_ n1_ n2_ n3_ n4_; (try clear hb); (try clear hb2); (try clear hk); (try clear hi))))
        go_meet
        case rel => exact ⟨_, (true), (by first | rfl | (simp; done) | (simp [*]; done)), H', ⟨by first | omega | exact Nat.le_refl _⟩, ⟨by (with_reducible repeat (first | apply Kd.R_alloc | apply Kd.R_drewN | apply Kd.R_drew)); exact HO185.out⟩, ⟨by (with_reducible repeat (first | apply Kd.R_alloc | apply Kd.R_drewN | apply Kd.R_drew)); exact HO188.out⟩, ⟨by repeat (first | (with_reducible first | exact HB.out | apply below_alloc | apply pw_below_drewN | apply below_drew1) | exact HB.out)⟩⟩
    · replace c15 := Bool.eq_false_iff.mpr c15
      subst c15
      have H1 : (pollardlaw18_DiffPairs.j0 k t182 t186 true) = some r := by rw [if_neg (show ¬ (false = true) by decide)] at H; exact H
      clear H
      have H := H1
      clear H1
      have H' := Aside0.mk H
      clear H
      go_wp2_with (first | (go_at_call 10; (with_reducible refine (pollardlaw18_awake.calls k  false _ A14.out).mono ?_); rintro e w21 ⟨rfl, hb⟩; have n0_ := Aside0.mk (Kd.V_below (by (with_reducible repeat (first | apply Kd.V_alloc | apply Kd.V_drewN | apply Kd.V_drew)); exact HO178.out) hb); have n1_ := Aside0.mk (Kd.V_below (by (with_reducible repeat (first | apply Kd.V_alloc | apply Kd.V_drewN | apply Kd.V_drew)); exact HO181.out) hb); have n2_ := Aside0.mk (Kd.R_below (by (with_reducible repeat (first | apply Kd.R_alloc | apply Kd.R_drewN | apply Kd.R_drew)); exact HO185.out) hb); have n3_ := Aside0.mk (Kd.R_below (by (with_reducible repeat (first | apply Kd.R_alloc | apply Kd.R_drewN | apply Kd.R_drew)); exact HO188.out) hb); have n4_ := Aside0.mk (below_step (by repeat (first | (with_reducible first | exact HB.out | apply below_alloc | apply pw_below_drewN | apply below_drew1) | exact HB.out)) hb); clear HO178; clear HO181; clear HO185; clear HO188; clear HB; have HO178 := n0_; have HO181 := n1_; have HO185 := n2_; have HO188 := n3_; have HB := n4_; clear n0_ n1_ n2_ n3_ n4_; (try clear hb); (try clear hb2); (try clear hk); (try clear hi)))
      repeat (go_quiet (first | (go_at_call 10; (with_reducible refine (pollardlaw18_awake.calls k  false _ A14.out).mono ?_); rintro e w21 ⟨rfl, hb⟩; have n0_ := Aside0.mk (Kd.V_below (by (with_reducible repeat (first | apply Kd.V_alloc | apply Kd.V_drewN | apply Kd.V_drew)); exact HO178.out) hb); have n1_ := Aside0.mk (Kd.V_below (by (with_reducible repeat (first | apply Kd.V_alloc | apply Kd.V_drewN | apply Kd.V_drew)); exact HO181.out) hb); have n2_ := Aside0.mk (Kd.R_below (by (with_reducible repeat (first | apply Kd.R_alloc | apply Kd.R_drewN | apply Kd.R_drew)); exact HO185.out) hb); have n3_ := Aside0.mk (Kd.R_below (by (with_reducible repeat (first | apply Kd.R_alloc | apply Kd.R_drewN | apply Kd.R_drew)); exact HO188.out) hb); have n4_ := Aside0.mk (below_step (by repeat (first | (with_reducible first | exact HB.out | apply below_alloc | apply pw_below_drewN | apply below_drew1) | exact HB.out)) hb); clear HO178; clear HO181; clear HO185; clear HO188; clear HB; have HO178 := n0_; have HO181 := n1_; have HO185 := n2_; have HO188 := n3_; have HB := n4_; clear n0_ n1_ n2_ n3_ n4_; (try clear hb); (try clear hb2); (try clear hk); (try clear hi))); try go_wp2_with (first | (go_at_call 10; (with_reducible refine (pollardlaw18_awake.calls k  false _ A14.out).mono ?_); rintro e w21 ⟨rfl, hb⟩; have n0_ := Aside0.mk (Kd.V_below (by (with_reducible repeat (first | apply Kd.V_alloc | apply Kd.V_drewN | apply Kd.V_drew)); exact HO178.out) hb); have n1_ := Aside0.mk (Kd.V_below (by (with_reducible repeat (first | apply Kd.V_alloc | apply Kd.V_drewN | apply Kd.V_drew)); exact HO181.out) hb); have n2_ := Aside0.mk (Kd.R_below (by (with_reducible repeat (first | apply Kd.R_alloc | apply Kd.R_drewN | apply Kd.R_drew)); exact HO185.out) hb); have n3_ := Aside0.mk (Kd.R_below (by (with_reducible repeat (first | apply Kd.R_alloc | apply Kd.R_drewN | apply Kd.R_drew)); exact HO188.out) hb); have n4_ := Aside0.mk (below_step (by repeat (first | (with_reducible first | exact HB.out | apply below_alloc | apply pw_below_drewN | apply below_drew1) | exact HB.out)) hb); clear HO178; clear HO181; clear HO185; clear HO188; clear HB; have HO178 := n0_; have HO181 := n1_; have HO185 := n2_; have HO188 := n3_; have HB := n4_; clear n0_ n1_ n2_ n3_ n4_; (try clear hb); (try clear hb2); (try clear hk); (try clear hi))))
      go_meet
      case rel => exact ⟨_, (true), (by first | rfl | (simp; done) | (simp [*]; done)), H', ⟨by first | omega | exact Nat.le_refl _⟩, ⟨by (with_reducible repeat (first | apply Kd.R_alloc | apply Kd.R_drewN | apply Kd.R_drew)); exact HO185.out⟩, ⟨by (with_reducible repeat (first | apply Kd.R_alloc | apply Kd.R_drewN | apply Kd.R_drew)); exact HO188.out⟩, ⟨by repeat (first | (with_reducible first | exact HB.out | apply below_alloc | apply pw_below_drewN | apply below_drew1) | exact HB.out)⟩⟩
  case rest =>
    clear HC7
    try clear c1
    try clear p2
    try clear c4
    try clear c15
    try clear c16
    try clear c16b0
    try clear c16b1
    obtain ⟨kq, x36_6, rfl, HA, HJ6, HO_7, HO_9, HB⟩ := hcut
    cases kq with
    | zero => exact absurd HA.out (by simp [pollardlaw18_DiffPairs.j0])
    | succ kj6 =>
      have H := HA.out
      clear HA
      simp only [pollardlaw18_DiffPairs.j0] at H
      by_cases c22 : x36_6 = true
      · subst c22
        have H1 : (some false) = some r := by rw [if_pos rfl] at H; exact H
        clear H
        have H := H1
        clear H1
        obtain rfl := Option.some.inj H
        go_wp2
        repeat (go_quiet (fail); try go_wp2)
        go_ret
        exact ⟨by first | rfl | (simp [errW_none, errW_some] <;> rfl) | (simp [*, errW_none, errW_some] <;> rfl), by repeat (first | (with_reducible first | exact HB.out | apply below_alloc | apply pw_below_drewN | apply below_drew1) | exact HB.out)⟩
      · replace c22 := Bool.eq_false_iff.mpr c22
        subst c22
        have H1 : (pollardlaw18_DiffPairs.l0 kj6 t182 t186 0) = some r := by rw [if_neg (show ¬ (false = true) by decide)] at H; exact H
        clear H
        have H := H1
        clear H1
        have H' := Aside0.mk H
        clear H
        go_wp2
        repeat (go_quiet (fail); try go_wp2)
        go_loopg [10] kj6 (fun kq v10 w' => ∃ (x10_2 : Int), v10 = .int .i64 x10_2 ∧ Aside0 (pollardlaw18_DiffPairs.l0 kq t182 t186 x10_2 = some r) ∧ Aside0 (kq ≤ kj6) ∧ Aside0 (Kd.R k35 35 w' w.heap.size (fun _ => True) v184 t182) ∧ Aside0 (Kd.R k34 34 w' w.heap.size (fun _ => True) v187 t186) ∧ Aside0 (Below w.heap.size w w'))
        case atStart => exact ⟨(0), (by first | rfl | (simp; done) | (simp [*]; done)), H', ⟨Nat.le_refl _⟩, ⟨by (with_reducible repeat (first | apply Kd.R_alloc | apply Kd.R_drewN | apply Kd.R_drew)); exact HO_7.out⟩, ⟨by (with_reducible repeat (first | apply Kd.R_alloc | apply Kd.R_drewN | apply Kd.R_drew)); exact HO_9.out⟩, ⟨by repeat (first | (with_reducible first | exact HB.out | apply below_alloc | apply pw_below_drewN | apply below_drew1) | exact HB.out)⟩⟩
        case round =>
          clear H'
          try clear c1
          try clear c2
          try clear p2
          try clear c4
          try clear c15
          try clear c16
          try clear c16b0
          try clear c16b1
          try clear c22
          try clear p2
          obtain ⟨x10_2, rfl, HA, HK2, HO_7, HO_9, HB⟩ := hrel
          cases gk with
          | zero => exact absurd HA.out (by simp [pollardlaw18_DiffPairs.l0])
          | succ k2 =>
            have H := HA.out
            clear HA
            simp only [pollardlaw18_DiffPairs.l0] at H
            by_cases c23 : x10_2 < (t186.length : Int)
            · rw [if_pos c23] at H
              have c23b0 : decide (x10_2 < (t186.length : Int)) = true := decide_eq_true c23
              clear c23
              by_cases c24 : 0 ≤ x10_2
              · rw [if_pos c24] at H
                have c24b0 : decide (0 ≤ x10_2) = true := decide_eq_true c24
                clear c24
                by_cases c25 : x10_2 < (t182.length : Int)
                · rw [if_pos c25] at H
                  have c25b0 : decide (x10_2 < (t182.length : Int)) = true := decide_eq_true c25
                  clear c25
                  by_cases c26 : (!(((rd_T35 t182 x10_2).f0) == ((rd_T34 t186 x10_2).f0)) || (!(((rd_T35 t182 x10_2).f1) == ((rd_T34 t186 x10_2).f1)))) = true
                  · rw [if_pos c26] at H
                    have c26b0 : (!(((rd_T35 t182 x10_2).f0) == ((rd_T34 t186 x10_2).f0)) || (!(((rd_T35 t182 x10_2).f1) == ((rd_T34 t186 x10_2).f1)))) = true := c26
                    clear c26
                    obtain rfl := Option.some.inj H
                    obtain ⟨Ao27, co27, eo27⟩ := Kd.R_slice HO_9.out
                    subst eo27
                    obtain ⟨Ao28, co28, eo28⟩ := Kd.R_slice HO_7.out
                    subst eo28
                    have p190 : 0 ≤ (x10_2 : Int) := of_decide_eq_true (by first | (with_reducible assumption) | assumption)
                    have q190 : x10_2 < (t182.length : Int) := of_decide_eq_true (by first | (with_reducible assumption) | assumption)
                    obtain ⟨ad190, e190, hx190_0, hx190_1⟩ := at_T35 (Kd.R_reads' HO_7.out).2.2 x10_2 p190 q190
                    cases e190
                    replace p190 := eq_true p190
                    replace q190 := eq_true q190
                    have p191 : 0 ≤ (x10_2 : Int) := of_decide_eq_true (by first | (with_reducible assumption) | assumption)
                    have q191 : x10_2 < (t186.length : Int) := of_decide_eq_true (by first | (with_reducible assumption) | assumption)
                    obtain ⟨ad191, e191, hx191_0, hx191_1⟩ := at_T34 (Kd.R_reads' HO_9.out).2.2 x10_2 p191 q191
                    cases e191
                    replace p191 := eq_true p191
                    replace q191 := eq_true q191
                    go_wp2
                    repeat (go_quiet (fail); try go_wp2)
                    go_ret
                    exact ⟨by first | rfl | (simp [errW_none, errW_some] <;> rfl) | (simp [*, errW_none, errW_some] <;> rfl), by repeat (first | (with_reducible first | exact HB.out | apply below_alloc | apply pw_below_drewN | apply below_drew1) | exact HB.out)⟩
                  · rw [if_neg c26] at H
                    have c26b0 : (!(((rd_T35 t182 x10_2).f0) == ((rd_T34 t186 x10_2).f0)) || (!(((rd_T35 t182 x10_2).f1) == ((rd_T34 t186 x10_2).f1)))) = false := by simpa using c26
                    clear c26
                    have H' := Aside0.mk H
                    clear H
                    obtain ⟨Ao29, co29, eo29⟩ := Kd.R_slice HO_9.out
                    subst eo29
                    obtain ⟨Ao30, co30, eo30⟩ := Kd.R_slice HO_7.out
                    subst eo30
                    have p190 : 0 ≤ (x10_2 : Int) := of_decide_eq_true (by first | (with_reducible assumption) | assumption)
                    have q190 : x10_2 < (t182.length : Int) := of_decide_eq_true (by first | (with_reducible assumption) | assumption)
                    obtain ⟨ad190, e190, hx190_0, hx190_1⟩ := at_T35 (Kd.R_reads' HO_7.out).2.2 x10_2 p190 q190
                    cases e190
                    replace p190 := eq_true p190
                    replace q190 := eq_true q190
                    have p191 : 0 ≤ (x10_2 : Int) := of_decide_eq_true (by first | (with_reducible assumption) | assumption)
                    have q191 : x10_2 < (t186.length : Int) := of_decide_eq_true (by first | (with_reducible assumption) | assumption)
                    obtain ⟨ad191, e191, hx191_0, hx191_1⟩ := at_T34 (Kd.R_reads' HO_9.out).2.2 x10_2 p191 q191
                    cases e191
                    replace p191 := eq_true p191
                    replace q191 := eq_true q191
                    go_wp2
                    repeat (go_quiet (fail); try go_wp2)
                    go_roundg k2
                    case measure => have := HJ6.out; have := HK2.out; omega
                    case rel => exact ⟨(wrap64 (x10_2 + 1)), (by first | rfl | (simp; done) | (simp [*]; done)), H', ⟨by have := HJ6.out; have := HK2.out; omega⟩, ⟨by (with_reducible repeat (first | apply Kd.R_alloc | apply Kd.R_drewN | apply Kd.R_drew)); exact HO_7.out⟩, ⟨by (with_reducible repeat (first | apply Kd.R_alloc | apply Kd.R_drewN | apply Kd.R_drew)); exact HO_9.out⟩, ⟨by repeat (first | (with_reducible first | exact HB.out | apply below_alloc | apply pw_below_drewN | apply below_drew1) | exact HB.out)⟩⟩
                · rw [if_neg c25] at H
                  exact absurd H (by simp)
              · rw [if_neg c24] at H
                exact absurd H (by simp)
            · rw [if_neg c23] at H
              have c23b0 : decide (x10_2 < (t186.length : Int)) = false := decide_eq_false c23
              clear c23
              obtain rfl := Option.some.inj H
              obtain ⟨Ao31, co31, eo31⟩ := Kd.R_slice HO_9.out
              subst eo31
              go_wp2
              repeat (go_quiet (fail); try go_wp2)
              go_ret
              exact ⟨by first | rfl | (simp [errW_none, errW_some] <;> rfl) | (simp [*, errW_none, errW_some] <;> rfl), by repeat (first | (with_reducible first | exact HB.out | apply below_alloc | apply pw_below_drewN | apply below_drew1) | exact HB.out)⟩

/-! ### stringslite_HasSuffix: function 31 -/
def stringslite_HasSuffix.f (a0 : ByteArray) (a1 : ByteArray) : Option (Bool) := if (a0.size : Int) ≥ (a1.size : Int) then (if 0 ≤ (wrap64 ((a0.size : Int) - (a1.size : Int))) then (if (wrap64 ((a0.size : Int) - (a1.size : Int))) ≤ (a0.size : Int) then (some ((a0.extract ((wrap64 ((a0.size : Int) - (a1.size : Int))) : Int).toNat a0.size).toList == a1.toList)) else (none)) else (none)) else (some false)
set_option maxHeartbeats 8000000 in
set_option maxRecDepth 100000 in
theorem stringslite_HasSuffix.calls (a0 : ByteArray) (a1 : ByteArray) (r : Bool) (w : World) (h : stringslite_HasSuffix.f a0 a1 = some r) :
    Calls Tryd.prog 31 #[.string a0, .string a1] w fun e w' => e = .returned (.bool r) ∧ Drawn0 w w' := by
  have H : (if (a0.size : Int) ≥ (a1.size : Int) then (if 0 ≤ (wrap64 ((a0.size : Int) - (a1.size : Int))) then (if (wrap64 ((a0.size : Int) - (a1.size : Int))) ≤ (a0.size : Int) then (some ((a0.extract ((wrap64 ((a0.size : Int) - (a1.size : Int))) : Int).toNat a0.size).toList == a1.toList)) else (none)) else (none)) else (some false)) = some r := h
  clear h
  by_cases c3 : (a0.size : Int) ≥ (a1.size : Int)
  · rw [if_pos c3] at H
    have c3b0 : decide ((a1.size : Int) ≤ (a0.size : Int)) = true := decide_eq_true c3
    have c3b1 : decide (a1.size ≤ a0.size) = true := decide_eq_true (Int.ofNat_le.mp c3)
    clear c3
    obtain ⟨ji4, hji4⟩ : ∃ j_ : Int, (wrap64 ((a0.size : Int) - (a1.size : Int))) = j_ := ⟨_, rfl⟩
    replace H : (if 0 ≤ (ji4) then (if (ji4) ≤ (a0.size : Int) then (some ((a0.extract ((ji4) : Int).toNat a0.size).toList == a1.toList)) else (none)) else (none)) = some r := by first | (rw [hji4] at H; exact H) | (simp only [hji4] at H ⊢; exact H)
    have hji4w : (IntKind.i64.wrap ((a0.size : Int) - (a1.size : Int))) = ji4 := (i64_w _).trans hji4
    by_cases c5 : 0 ≤ (ji4)
    · rw [if_pos c5] at H
      have c5b0 := eq_true c5
      have c5b1 : decide (0 ≤ (ji4)) = true := decide_eq_true c5
      clear c5
      by_cases c6 : (ji4) ≤ (a0.size : Int)
      · rw [if_pos c6] at H
        have c6b0 := eq_true c6
        have c6b1 : decide ((ji4) ≤ (a0.size : Int)) = true := decide_eq_true c6
        clear c6
        obtain rfl := Option.some.inj H
        go_enter Tryd.func31, Tryd.ntmps31
        go_wp2
        go_ret
        exact ⟨by first | rfl | (simp; done) | (simp only [← hji4] <;> (first | rfl | simp)) | (simp [*]; done), by repeat (first | exact Drawn0.refl _ | apply Drawn0.step)⟩
      · rw [if_neg c6] at H
        exact absurd H (by simp)
    · rw [if_neg c5] at H
      exact absurd H (by simp)
  · rw [if_neg c3] at H
    have c3b0 : decide ((a1.size : Int) ≤ (a0.size : Int)) = false := decide_eq_false c3
    have c3b1 : decide (a1.size ≤ a0.size) = false := decide_eq_false (fun h => c3 (Int.ofNat_le.mpr h))
    clear c3
    obtain rfl := Option.some.inj H
    go_enter Tryd.func31, Tryd.ntmps31
    go_wp2
    go_ret
    exact ⟨by first | rfl | (simp; done) | (simp [*]; done), by repeat (first | exact Drawn0.refl _ | apply Drawn0.step)⟩

/-! ### stringslite_TrimSuffix: function 26 -/
def stringslite_TrimSuffix.f (a0 : ByteArray) (a1 : ByteArray) : Option (ByteArray) := (stringslite_HasSuffix.f a0 a1).bind fun t192 => (if t192 = true then (if 0 ≤ (wrap64 ((a0.size : Int) - (a1.size : Int))) then (if (wrap64 ((a0.size : Int) - (a1.size : Int))) ≤ (a0.size : Int) then (some (a0.extract 0 ((wrap64 ((a0.size : Int) - (a1.size : Int))) : Int).toNat)) else (none)) else (none)) else (some a0))
set_option maxHeartbeats 8000000 in
set_option maxRecDepth 100000 in
theorem stringslite_TrimSuffix.calls (a0 : ByteArray) (a1 : ByteArray) (r : ByteArray) (w : World) (h : stringslite_TrimSuffix.f a0 a1 = some r) :
    Calls Tryd.prog 26 #[.string a0, .string a1] w fun e w' => e = .returned (.string r) ∧ Drawn0 w w' := by
  have H : ((stringslite_HasSuffix.f a0 a1).bind fun t192 => (if t192 = true then (if 0 ≤ (wrap64 ((a0.size : Int) - (a1.size : Int))) then (if (wrap64 ((a0.size : Int) - (a1.size : Int))) ≤ (a0.size : Int) then (some (a0.extract 0 ((wrap64 ((a0.size : Int) - (a1.size : Int))) : Int).toNat)) else (none)) else (none)) else (some a0))) = some r := h
  clear h
  replace H := Option.bind_eq_some_iff.mp H
  obtain ⟨t192, A30, H⟩ := H
  replace H : (if t192 = true then (if 0 ≤ (wrap64 ((a0.size : Int) - (a1.size : Int))) then (if (wrap64 ((a0.size : Int) - (a1.size : Int))) ≤ (a0.size : Int) then (some (a0.extract 0 ((wrap64 ((a0.size : Int) - (a1.size : Int))) : Int).toNat)) else (none)) else (none)) else (some a0)) = some r := H
  have A3 := Aside0.mk A30
  clear A30
  by_cases c4 : t192 = true
  · subst c4
    have H1 : (if 0 ≤ (wrap64 ((a0.size : Int) - (a1.size : Int))) then (if (wrap64 ((a0.size : Int) - (a1.size : Int))) ≤ (a0.size : Int) then (some (a0.extract 0 ((wrap64 ((a0.size : Int) - (a1.size : Int))) : Int).toNat)) else (none)) else (none)) = some r := by rw [if_pos rfl] at H; exact H
    clear H
    have H := H1
    clear H1
    obtain ⟨ji5, hji5⟩ : ∃ j_ : Int, (wrap64 ((a0.size : Int) - (a1.size : Int))) = j_ := ⟨_, rfl⟩
    replace H : (if 0 ≤ (ji5) then (if (ji5) ≤ (a0.size : Int) then (some (a0.extract 0 ((ji5) : Int).toNat)) else (none)) else (none)) = some r := by first | (rw [hji5] at H; exact H) | (simp only [hji5] at H ⊢; exact H)
    (try rw [hji5] at A3)
    have hji5w : (IntKind.i64.wrap ((a0.size : Int) - (a1.size : Int))) = ji5 := (i64_w _).trans hji5
    by_cases c6 : 0 ≤ (ji5)
    · rw [if_pos c6] at H
      have c6b0 := eq_true c6
      have c6b1 : decide (0 ≤ (ji5)) = true := decide_eq_true c6
      clear c6
      by_cases c7 : (ji5) ≤ (a0.size : Int)
      · rw [if_pos c7] at H
        have c7b0 := eq_true c7
        have c7b1 : decide ((ji5) ≤ (a0.size : Int)) = true := decide_eq_true c7
        clear c7
        obtain rfl := Option.some.inj H
        go_enter Tryd.func26, Tryd.ntmps26
        go_wp2_with (first | ((with_reducible refine gate_callee (f := 31) rfl ?_); refine goesL_ (some 7) rfl rfl Tryd.func31 (by kernel_rfl) rfl #[.string a0, .string a1] rfl (by (try simp only [List.map_toArray, List.map_cons, List.map_nil]); first | done | rfl | (simp only [List.length_drop, List.length_take]; rfl)) ?_; (with_reducible refine (stringslite_HasSuffix.calls a0 a1 true _ A3.out).mono ?_); rintro e w' ⟨rfl, ⟨nd, rfl⟩⟩; refine ⟨_, rfl, ?_⟩))
        go_ret
        exact ⟨by first | rfl | (simp; done) | (simp only [← hji5] <;> (first | rfl | simp)) | (simp [*]; done), by repeat (first | exact Drawn0.refl _ | apply Drawn0.step)⟩
      · rw [if_neg c7] at H
        exact absurd H (by simp)
    · rw [if_neg c6] at H
      exact absurd H (by simp)
  · replace c4 := Bool.eq_false_iff.mpr c4
    subst c4
    have H1 : (some a0) = some r := by rw [if_neg (show ¬ (false = true) by decide)] at H; exact H
    clear H
    have H := H1
    clear H1
    obtain rfl := Option.some.inj H
    go_enter Tryd.func26, Tryd.ntmps26
    go_wp2_with (first | ((with_reducible refine gate_callee (f := 31) rfl ?_); refine goesL_ (some 7) rfl rfl Tryd.func31 (by kernel_rfl) rfl #[.string a0, .string a1] rfl (by (try simp only [List.map_toArray, List.map_cons, List.map_nil]); first | done | rfl | (simp only [List.length_drop, List.length_take]; rfl)) ?_; (with_reducible refine (stringslite_HasSuffix.calls a0 a1 false _ A3.out).mono ?_); rintro e w' ⟨rfl, ⟨nd, rfl⟩⟩; refine ⟨_, rfl, ?_⟩))
    go_ret
    exact ⟨by first | rfl | (simp; done) | (simp [*]; done), by repeat (first | exact Drawn0.refl _ | apply Drawn0.step)⟩

/-! ### strings_TrimSuffix: function 21 -/
def strings_TrimSuffix.f (a0 : ByteArray) (a1 : ByteArray) : Option (ByteArray) := (stringslite_TrimSuffix.f a0 a1).bind fun t193 => (some t193)
set_option maxHeartbeats 8000000 in
set_option maxRecDepth 100000 in
theorem strings_TrimSuffix.calls (a0 : ByteArray) (a1 : ByteArray) (r : ByteArray) (w : World) (h : strings_TrimSuffix.f a0 a1 = some r) :
    Calls Tryd.prog 21 #[.string a0, .string a1] w fun e w' => e = .returned (.string r) ∧ Drawn0 w w' := by
  have H : ((stringslite_TrimSuffix.f a0 a1).bind fun t193 => (some t193)) = some r := h
  clear h
  replace H := Option.bind_eq_some_iff.mp H
  obtain ⟨t193, A30, H⟩ := H
  replace H : (some t193) = some r := H
  have A3 := Aside0.mk A30
  clear A30
  obtain rfl := Option.some.inj H
  go_enter Tryd.func21, Tryd.ntmps21
  go_wp2_with (first | ((with_reducible refine gate_callee (f := 26) rfl ?_); refine goesL_ (some 7) rfl rfl Tryd.func26 (by kernel_rfl) rfl #[.string a0, .string a1] rfl (by (try simp only [List.map_toArray, List.map_cons, List.map_nil]); first | done | rfl | (simp only [List.length_drop, List.length_take]; rfl)) ?_; (with_reducible refine (stringslite_TrimSuffix.calls a0 a1 t193 _ A3.out).mono ?_); rintro e w' ⟨rfl, ⟨nd, rfl⟩⟩; refine ⟨_, rfl, ?_⟩))
  go_ret
  exact ⟨by first | rfl | (simp; done) | (simp [*]; done), by repeat (first | exact Drawn0.refl _ | apply Drawn0.step)⟩

/-! ### diff_Show: function 16 (given by hand) -/
/-- Lines behind a sign, behind what there is. -/
def diff_Show.put (sign : ByteArray) : List ByteArray → ByteArray → Option ByteArray
  | [], s => some s
  | x :: l, s => (strings_TrimSuffix.f x (⟨#[10]⟩ : ByteArray)).bind fun t => if s.size + (sign.size + t.size + 1) ≤ 140737488355328 then diff_Show.put sign l (s ++ (sign ++ t ++ (⟨#[10]⟩ : ByteArray))) else none
def diff_Show.cut (l : List ByteArray) (i j : Int) : List ByteArray := (l.take j.toNat).drop i.toNat
/-- What is told between pairs. -/
def diff_Show.go (a b : List ByteArray) : List (S35) → Int → Int → ByteArray → Option ByteArray
  | [], _, _, s => some s
  | p :: ps, i, j, s => if 0 ≤ i ∧ i ≤ p.f0 ∧ p.f0 ≤ (a.length : Int) ∧ 0 ≤ j ∧ j ≤ p.f1 ∧ p.f1 ≤ (b.length : Int) then
      (diff_Show.put (⟨#[45]⟩ : ByteArray) (diff_Show.cut a i p.f0) s).bind fun s1 => (diff_Show.put (⟨#[43]⟩ : ByteArray) (diff_Show.cut b j p.f1) s1).bind fun s2 =>
        if p.f0 < (a.length : Int) then (diff_Show.put (⟨#[32]⟩ : ByteArray) (diff_Show.cut a p.f0 (p.f0 + 1)) s2).bind fun s3 => diff_Show.go a b ps (p.f0 + 1) (p.f1 + 1) s3
        else diff_Show.go a b ps (p.f0 + 1) (p.f1 + 1) s2
    else none
def diff_Show.f (k : Nat) (l0 : List ByteArray) (l1 : List ByteArray) : Option (ByteArray × Int) := (diff_Pairs.f k l0 l1).bind fun r => if r.2 = 0 then (if r.1.length < 8796093022208 ∧ l0.length ≤ 1000000 ∧ l1.length ≤ 1000000 then (diff_Show.go l0 l1 (r.1 ++ [(⟨(l0.length : Int), (l1.length : Int)⟩ : S35)]) 0 0 (⟨#[]⟩ : ByteArray)).bind fun s => some (s, 0) else none) else some ((⟨#[]⟩ : ByteArray), r.2)
theorem diff_Show.mono : ∀ a0 a1 k, LeO (diff_Show.f k a0 a1) (diff_Show.f (k + 1) a0 a1) := by
  intro a0 a1 k
  unfold diff_Show.f
  exact LeO.bind (diff_Pairs.mono _ _ _) (fun _ => LeO.refl _)
theorem diff_Show.drop (l : List ByteArray) (x : Int) (h0 : 0 ≤ x) (h1 : x < (l.length : Int)) : l.drop x.toNat = rdOf ByteArray.empty l x :: l.drop (x + 1).toNat := by
  have hl : x.toNat < l.length := by omega
  rw [List.drop_eq_getElem_cons hl, show (x + 1).toNat = x.toNat + 1 by omega]
  unfold rdOf
  simp [List.getD, hl]
theorem diff_Show.builder_below {T e : TypeId} {B b : Nat} {bs : List Value} {w w1 : World} (h : Lib.IsBuilderF T e B b bs w) (hb : Below w.heap.size w w1) : Lib.IsBuilderF T e B b bs w1 := by
  have go : ∀ p, Lib.BuilderAtF T e B b p bs w → Lib.BuilderAtF T e B b p bs w1 := by
    rintro p h
    have hlt := h.lt
    obtain ⟨hB, v, hv, hown, hne⟩ := h
    exact ⟨hB, v, (hb.block b hlt).trans hv, hown.kept (grown_of_below hb none) (by cases hv : v.ownBlock <;> simp), hne⟩
  exact h.elim (fun x => .inl (go _ x)) (fun x => .inr (go _ x))
theorem diff_Show.builder_drewN {T e : TypeId} {B b : Nat} {bs : List Value} {w : World} (h : Lib.IsBuilderF T e B b bs w) (n : Nat) : Lib.IsBuilderF T e B b bs (w.drewN n) := h
theorem diff_Show.below_drewN {B : Nat} {a w : World} (h : Below B a w) (n : Nat) : Below B a (w.drewN n) := ⟨h.1, h.2, h.3, h.4, h.5⟩
theorem diff_Show.size_drewN {B : Nat} {w : World} (h : B ≤ w.heap.size) (n : Nat) : B ≤ (w.drewN n).heap.size := h
theorem diff_Show.others_drewN {e : TypeId} {b : Option Nat} {a w : World} (h : Lib.OthersKept e b a w) (n : Nat) : Lib.OthersKept e b a (w.drewN n) := h
theorem diff_Show.strCells_append (a b : ByteArray) : Lib.strCells a ++ Lib.strCells b = Lib.strCells (a ++ b) := by
  simp [Lib.strCells]
set_option maxHeartbeats 4000000 in
set_option maxRecDepth 100000 in
/-- The closure: what it writes. -/
theorem diff_Show.put_calls (sign : ByteArray) (b B : Nat) (A : Option Addr) (c : Nat) (l : List ByteArray) (s r : ByteArray) (w0 w : World) (hsg : sign.size ≤ 10) (hr : Kd.C Kd.string w0 A l.length l) (hb : Below w0.heap.size w0 w) (hI : Lib.IsBuilderF 50 5 B b (Lib.strCells s) w) (hB : w0.heap.size ≤ B) (hBw : B ≤ w.heap.size) (h : diff_Show.put sign l s = some r) :
    Calls Tryd.prog 19 #[.string sign, .slice A l.length c, .pointer (some ⟨b, 0, none⟩)] w fun e w' => e = .returned (.tuple #[]) ∧ Lib.IsBuilderF 50 5 B b (Lib.strCells r) w' ∧ Below B w w' ∧ Lib.OthersKept 5 (some b) w w' := by
  have HR := Aside0.mk hr
  have HB0 := Aside0.mk hb
  have HBB := Aside0.mk hB
  have HZ := Aside0.mk hBw
  have HL := Aside0.mk (show (l.length : Int) ≤ 9223372036854775807 by have := hr.2.1; omega)
  have H' := Aside0.mk h
  have HI0 := Aside0.mk hI
  have HW0 := Aside0.mk (Below.refl B w)
  have HO0 := Aside0.mk (Lib.OthersKept.refl 5 (some b) w)
  clear hr hb hB hBw h hI
  go_enter Tryd.func19, Tryd.ntmps19
  go_wp2_with fail
  go_loopw [9] (fun v9 wr => ∃ (t : ByteArray) (x : Int), v9 = .int .i64 x ∧ 0 ≤ x ∧ x ≤ (l.length : Int) ∧ Aside0 (diff_Show.put sign (l.drop x.toNat) t = some r) ∧ Aside0 (Lib.IsBuilderF 50 5 B b (Lib.strCells t) wr) ∧ Aside0 (Below B w wr) ∧ Aside0 (Lib.OthersKept 5 (some b) w wr)) (fun v9 _ => l.length - (intOf v9).toNat)
  case atStart => exact ⟨s, 0, rfl, by omega, by omega, H', HI0, HW0, HO0⟩
  case round =>
    obtain ⟨t, x, rfl, h0, h1, HA, HI, HB, HO⟩ := hrel
    clear H' HI0 HW0 HO0
    by_cases hlt : x < (l.length : Int)
    · have hA := HA.out
      rw [diff_Show.drop l x h0 hlt] at hA
      simp only [diff_Show.put] at hA
      obtain ⟨t1, ht1, hA⟩ := Option.bind_eq_some_iff.mp hA
      have hl := HL.out
      clear HA
      by_cases hs : t.size + (sign.size + t1.size + 1) ≤ 140737488355328
      · rw [if_pos hs] at hA
        have HA2 := Aside0.mk hA
        have HT := Aside0.mk ht1
        obtain ⟨ad, e, hx⟩ := Kd.at_string HR.out x h0 hlt
        subst e
        have hbw : Below w0.heap.size w0 w := HB0.out
        replace hx := ((hbw.trans (HB.out.mono HBB.out)).cell (World.block_lt_of_cell? w0 _ hx)).trans hx
        have hZ2 : B ≤ wr.heap.size := Nat.le_trans HZ.out HB.out.size
        have HZ2 := Aside0.mk hZ2
        obtain ⟨x0, hx0⟩ : ∃ q, rdOf ByteArray.empty l x = q := ⟨_, rfl⟩
        rw [hx0] at hx
        rw [hx0] at HT
        have e1 : (⟨#[10]⟩ : ByteArray).size = 1 := rfl
        have y0 : sign.size + t1.size ≤ 9223372036854775807 := by omega
        have y1 : sign.size + t1.size + 1 ≤ 9223372036854775807 := by omega
        have y2 : (sign ++ t1).size + 1 ≤ 9223372036854775807 := by rw [ByteArray.size_append]; omega
        have HS := Aside0.mk (show t.size + (sign ++ t1 ++ (⟨#[10]⟩ : ByteArray)).size ≤ 140737488355328 by rw [ByteArray.size_append, ByteArray.size_append, e1]; exact hs)
        have yb0 := eq_true y0
        have yf0 : (9223372036854775807 < sign.size + t1.size) = False := eq_false (Nat.not_lt.2 y0)
        have yb1 := eq_true y1
        have yf1 : (9223372036854775807 < sign.size + t1.size + 1) = False := eq_false (Nat.not_lt.2 y1)
        have yb2 := eq_true y2
        have yf2 : (9223372036854775807 < (sign ++ t1).size + 1) = False := eq_false (Nat.not_lt.2 y2)
        clear hA ht1 hs hbw hZ2 hx0 y0 y1 y2 e1
        go_wp2_with (first
          | (go_at_call 21; refine (strings_TrimSuffix.calls x0 (⟨#[10]⟩ : ByteArray) t1 _ HT.out).mono ?_; rintro e w5 ⟨rfl, ⟨nd, rfl⟩⟩)
          | (go_at_call 20; have C_ := Tryd.builder_WriteString B b _ (sign ++ t1 ++ (⟨#[10]⟩ : ByteArray)) (wr.drewN nd) (diff_Show.builder_drewN HI.out nd) (by rw [Lib.strCells_length]; exact HS.out) (diff_Show.size_drewN HZ2.out nd); rw [diff_Show.strCells_append] at C_; refine C_.mono ?_; clear C_; rintro e w6 ⟨rfl, hI6, hb6, hk6⟩; have HI6 : Aside0 (Lib.IsBuilderF 50 5 B b (Lib.strCells (t ++ (sign ++ t1 ++ (⟨#[10]⟩ : ByteArray)))) w6) := ⟨.inr hI6⟩; have HB6 := Aside0.mk ((diff_Show.below_drewN HB.out nd).trans hb6); have HO6 : Aside0 (Lib.OthersKept 5 (some b) w w6) := ⟨Lib.OthersKept.trans (diff_Show.others_drewN HO.out nd) hk6⟩; clear hI6 hb6 hk6))
        go_roundw
        case rel => exact ⟨_, x + 1, rfl, by omega, by omega, HA2, HI6, HB6, HO6⟩
        case measure =>
          simp [intOf]
          omega
      · rw [if_neg hs] at hA
        cases hA
    · have hx : x = (l.length : Int) := by omega
      have hA := HA.out
      rw [hx, Int.toNat_natCast, List.drop_length] at hA
      have hA := Option.some.inj hA
      subst hA
      clear hx HA
      go_wp2
      go_end0
      exact ⟨rfl, HI.out, HB.out, HO.out⟩
theorem diff_Show.builder_grown {T e : TypeId} {B b : Nat} {bs : List Value} {w w1 : World} {row : Option Nat} (h : Lib.IsBuilderF T e B b bs w) (hg : w.grownBy w1 row) (hb : some b ≠ row) (hty : ∀ g, row = some g → ∃ cs q, w.heap[g]? = some (.cells cs q (0, 0)) ∧ q ≠ e) : Lib.IsBuilderF T e B b bs w1 := by
  have go : ∀ p, Lib.BuilderAtF T e B b p bs w → Lib.BuilderAtF T e B b p bs w1 := by
    rintro p h
    have hlt := h.lt
    obtain ⟨hB, v, hv, hown, hne⟩ := h
    refine ⟨hB, v, (hg.block b hlt hb).trans hv, hown.kept hg ?_, hne⟩
    rcases hown.2 with ⟨rfl, _⟩ | ⟨g, cap, cur, fz, rfl, hge, hh, _⟩
    · exact .inl rfl
    · refine .inr (fun e2 => ?_)
      obtain ⟨cs, q, hq, hqe⟩ := hty g (by rw [← e2]; rfl)
      rw [hh] at hq
      injection hq with hq
      injection hq with _ hq _
      exact hqe hq.symm
  exact h.elim (fun x => .inl (go _ x)) (fun x => .inr (go _ x))
theorem diff_Show.info : (Tryd.prog.info? 35).map (fun i => (i.zero, i.size, i.bytes)) = some (some (.agg #[(.int .i64 0), (.int .i64 0)]), 2, 16) := by kernel_rfl
theorem diff_Show.info9 : (Tryd.prog.info? 9).map (fun i => (i.zero, i.size, i.bytes)) = some (some (.string ⟨#[]⟩), 1, 16) := by kernel_rfl
theorem diff_Show.dropP (l : List (S35)) (x : Int) (h0 : 0 ≤ x) (h1 : x < (l.length : Int)) : l.drop x.toNat = rd_T35 l x :: l.drop (x + 1).toNat := by
  have hl : x.toNat < l.length := by omega
  rw [List.drop_eq_getElem_cons hl, show (x + 1).toNat = x.toNat + 1 by omega]
  unfold rd_T35
  simp [List.getD, hl]
theorem diff_Show.cut_at {w0 : World} {A : Option Addr} {c : Nat} {l : List ByteArray} {i j : Int} (hC : Kd.C Kd.string w0 A l.length l) (hc : l.length ≤ c) (h0 : 0 ≤ i) (h1 : i ≤ j) (h2 : j ≤ (l.length : Int)) :
    ∃ A' c', (∀ W : World, (Instr.slice 22 (.slice A l.length c) (some (.int .i64 i)) (some (.int .i64 j)) none).run Tryd.prog W = .ok (.slice A' (diff_Show.cut l i j).length c') W) ∧ Kd.C Kd.string w0 A' (diff_Show.cut l i j).length (diff_Show.cut l i j) ∧ (diff_Show.cut l i j).length ≤ c' := by
  obtain ⟨i0, hi0, _, hsz0, _⟩ := info_parts diff_Show.info9
  have h := cut_mid (P := Tryd.prog) 22 9 .i64 .i64 Tryd.underlying22 hi0 1 hsz0 A l.length c i j h0 h1 h2 hc
  have hr := Kd.C_mid (lo := i.toNat) (hi := j.toNat) (c := c) hC (by omega) (by omega) hc
  have hl : (diff_Show.cut l i j).length = j.toNat - i.toNat := by unfold diff_Show.cut; rw [List.length_drop, List.length_take]; omega
  refine ⟨_, c - i.toNat, fun W => ?_, hr, by rw [hl]; omega⟩
  rw [hl]
  exact h W
theorem diff_Show.builder_after {T : TypeId} {w1 W w3 : World} {base : Nat} {ok ok2 : Nat → Prop} {v : Value} {bs : List Value} {L : List (S35)} (hR : Kd.R k35 35 w1 base ok v L) (hRW : Kd.R k35 35 W base ok2 v L) (hI : Lib.IsBuilderF T 5 w1.heap.size w1.heap.size bs W) (hg : W.grownBy w3 v.ownBlock) : Lib.IsBuilderF T 5 w1.heap.size w1.heap.size bs w3 := by
  obtain ⟨inner, ho⟩ := Kd.R_own hR
  obtain ⟨inner2, ho2⟩ := Kd.R_own hRW
  refine diff_Show.builder_grown hI hg (fun e => ?_) (fun g hgv => ?_)
  · have := own_lt ho _ e.symm
    omega
  · obtain ⟨cells, hc⟩ := own_typed ho2 g hgv
    exact ⟨cells, _, hc, by decide⟩
theorem diff_Show.cells_kept {w w1 : World} {g b : Nat} {P0 P1 : Int} (h : w.heap[g]? = some (.cells #[.int .i64 P0, .int .i64 P1] 35 (0, 0))) (hk : Lib.OthersKept 5 (some b) w w1) (hne : g ≠ b) : w1.heap[g]? = some (.cells #[.int .i64 P0, .int .i64 P1] 35 (0, 0)) := by
  rw [hk g _ h (by simp; exact hne) (by simp)]
theorem diff_Show.row_kept {w w1 : World} {base b : Nat} {ok : Nat → Prop} {v : Value} {L : List (S35)} (h : Kd.R k35 35 w base ok v L) (hk : Lib.OthersKept 5 (some b) w w1) (hok : ∀ g, ok g → g ≠ b) : Kd.R k35 35 w1 base ok v L := by
  refine Kd.R_mono (Kd.R_move (Kd.R_bound h) (fun g hg => ?_)) (fun _ hg => hg.1)
  obtain ⟨h1, h2, h3, q, hq, cells, hc⟩ := hg
  have hq2 : q = 35 := by
    rcases List.mem_cons.mp hq with rfl | hq
    · rfl
    · exact absurd hq (by simp [k35, Kd.iso, Kd.pair, Kd.int, Kd.scalar])
  subst hq2
  rw [hk g _ hc (by simp; exact hok g h1) (by simp)]
  exact hc.symm
theorem diff_Show.step {w wa wb : World} {b g q3 : Nat} {A3 : Option Addr} {P0 P1 : Int} {s : ByteArray} {ML : List (S35)} (hI : Lib.IsBuilderF 50 5 b b (Lib.strCells s) wb) (hb : Below b wa wb) (hk : Lib.OthersKept 5 (some b) wa wb) (HB : Below w.heap.size w wa) (hwb : w.heap.size ≤ b) (hz : b < wa.heap.size) (hne : g ≠ b)
    (BK : wa.heap[g]? = some (.cells #[.int .i64 P0, .int .i64 P1] 35 (0, 0))) (HR : Kd.R k35 35 wa w.heap.size (fun k_ => k_ ≠ b) (.slice A3 ML.length q3) ML) :
    Aside0 (Lib.IsBuilderF 50 5 b b (Lib.strCells s) wb) ∧ Aside0 (Below w.heap.size w wb) ∧ Aside0 (b < wb.heap.size) ∧ Aside0 (wb.heap[g]? = some (.cells #[.int .i64 P0, .int .i64 P1] 35 (0, 0))) ∧ Aside0 (Kd.R k35 35 wb w.heap.size (fun k_ => k_ ≠ b) (.slice A3 ML.length q3) ML) ∧ wb.cell? ⟨g, 0, none⟩ = some (.int .i64 P0) ∧ wb.cell? ⟨g, 1, none⟩ = some (.int .i64 P1) := by
  have BK2 := diff_Show.cells_kept BK hk hne
  exact ⟨⟨hI⟩, ⟨HB.trans (hb.mono hwb)⟩, ⟨Nat.lt_of_lt_of_le hz hb.size⟩, ⟨BK2⟩, ⟨diff_Show.row_kept HR hk (fun _ h => h)⟩, (blk_cell BK2 0).trans rfl, (blk_cell BK2 1).trans rfl⟩
set_option maxHeartbeats 4000000 in
set_option maxRecDepth 100000 in
theorem diff_Show.calls (k : Nat) (A0 : Option Addr) (c0 : Nat) (l0 : List ByteArray) (A1 : Option Addr) (c1 : Nat) (l1 : List ByteArray) (r1 : ByteArray) (r2 : Int) (w : World) (hr0 : Kd.C Kd.string w A0 l0.length l0) (hc0 : l0.length ≤ c0) (hr1 : Kd.C Kd.string w A1 l1.length l1) (hc1 : l1.length ≤ c1) (h : diff_Show.f k l0 l1 = some (r1, r2)) :
    Calls Tryd.prog 16 #[.slice A0 l0.length c0, .slice A1 l1.length c1] w fun e w' => e = .returned (.tuple #[.string r1, .int .i64 r2]) ∧ Below w.heap.size w w' := by
  have hu := Tryd.underlying35
  have HR0 := Aside0.mk hr0
  have HC0 := Aside0.mk hc0
  have HR1 := Aside0.mk hr1
  have HC1 := Aside0.mk hc1
  obtain ⟨⟨L, e⟩, hp, h⟩ := Option.bind_eq_some_iff.mp h
  have P := Aside0.mk hp
  clear hr0 hc0 hr1 hc1 hp
  dsimp only at h
  have hmf : ∀ (fn : Fn) (first cap : Array Value) (w : World), (Instr.makeFunc fn first cap).run Tryd.prog w = .ok (.func fn first cap) w := fun _ _ _ _ => rfl
  by_cases c0 : e = 0
  · rw [if_pos c0] at h
    subst c0
    by_cases cl : L.length < 8796093022208 ∧ l0.length ≤ 1000000 ∧ l1.length ≤ 1000000
    · rw [if_pos cl] at h
      obtain ⟨s, hs, h⟩ := Option.bind_eq_some_iff.mp h
      have h := Option.some.inj h
      obtain ⟨rfl, rfl⟩ := Prod.mk.injEq .. ▸ h
      have G := Aside0.mk hs
      have LM := Aside0.mk cl.1
      have HL0 := Aside0.mk (show (l0.length : Int) ≤ 1000000 by have := cl.2.1; omega)
      have HL1 := Aside0.mk (show (l1.length : Int) ≤ 1000000 by have := cl.2.2; omega)
      clear hs h cl
      have HB := Aside0.mk (Below.refl w.heap.size w)
      go_enter Tryd.func16, Tryd.ntmps16
      go_wp2_with (first
        | (go_at_call 12; refine (diff_Pairs.calls k A0 _ l0 A1 _ l1 L 0 _ HR0.out HC0.out HR1.out HC1.out P.out).mono ?_; rintro e w1 ⟨v1, rfl, hR1, hb1⟩; obtain ⟨A2, q2, e2⟩ := Kd.R_slice hR1; subst e2; have HR2 := Aside0.mk hR1; have HB2 := Aside0.mk hb1; clear hR1 hb1)
        | ((with_reducible refine gate_builtin (b := .append) (xs := #[.tmp 24, .tmp 30]) rfl ?_); at_builtin; (refine Kd.R_append k35 (w0 := w) w.heap.size rfl (.tmp 24) (.tmp 30) 27 35 (.agg #[(.int .i64 0), (.int .i64 0)]) 16 rfl Tryd.underlying27 diff_Show.info rfl (by decide) (by omega) (.slice A2 L.length q2) L (⟨(l0.length : Int), (l1.length : Int)⟩ : S35) [.int .i64 (l0.length : Int), .int .i64 (l1.length : Int)] (fun k_ => k_ ≠ w1.heap.size) (fun _ => False) rfl ?aX ?aP (fun _ hk => hk.elim) ?aF ?aO ?aB ?aS ?aL ?_; (case aX => (show Value.slice (some ⟨w1.heap.size + 1, 0, none⟩) 1 1 = _; simp)); (case aP => exact k35_mkM _ _ _ (⟨(l0.length : Int), (l1.length : Int)⟩ : S35)); (case aF => intro k_ hk_; have := hk_; simp at this; omega); (case aO => (with_reducible repeat (first | apply Kd.R_alloc)); exact Kd.R_mono (Kd.R_bound HR2.out) (fun k_ hk_ => Nat.ne_of_lt hk_.2.2.1)); (case aB => repeat (first | (with_reducible first | exact HB2.out | apply below_alloc) | exact HB2.out)); (case aS => refine below_size ?_; repeat (first | (with_reducible first | exact HB2.out | apply below_alloc) | exact HB2.out)); (case aL => have := LM.out; omega)); (intro v3 w3 ho hb hg hat; obtain ⟨ML, hM⟩ : ∃ M_, M_ = L ++ [(⟨(l0.length : Int), (l1.length : Int)⟩ : S35)] := ⟨_, rfl⟩; rw [← hM] at ho; have HM := Aside0.mk hM; clear hM; have HI3 : Aside0 (Lib.IsBuilderF 50 5 w1.heap.size w1.heap.size (Lib.strCells (⟨#[]⟩ : ByteArray)) w3) := ⟨diff_Show.builder_after HR2.out (Kd.R_alloc HR2.out _) (Lib.IsBuilderF.of (Lib.fresh_isBuilder 50 5 w1)) hg⟩; have HZ3 := Aside0.mk (Nat.le_trans (below_size (below_alloc (Below.refl w1.heap.size w1) _)) hg.size); obtain ⟨A3, q3, e3⟩ := Kd.R_slice ho; subst e3; have HR3 := Aside0.mk ho; have HB3 := Aside0.mk hb; clear ho hb hg hat)))
      have G2 : Aside0 (diff_Show.go l0 l1 (ML.drop (0 : Int).toNat) 0 0 (⟨#[]⟩ : ByteArray) = some s) := ⟨by rw [HM.out]; exact G.out⟩
      have HWb := Aside0.mk HB2.out.size
      have HLM := Aside0.mk (show (ML.length : Int) ≤ 9223372036854775806 by have := LM.out; rw [HM.out, List.length_append, List.length_singleton]; omega)
      clear G HM HR2 HB2 P
      go_loopw [10, 11, 33] (fun v10 v11 v33 wr => ∃ (t : ByteArray) (x i j : Int), v10 = .int .i64 i ∧ v11 = .int .i64 j ∧ v33 = .int .i64 x ∧ 0 ≤ x ∧ x ≤ (ML.length : Int) ∧ Aside0 (diff_Show.go l0 l1 (ML.drop x.toNat) i j t = some s) ∧ Aside0 (Lib.IsBuilderF 50 5 w1.heap.size w1.heap.size (Lib.strCells t) wr) ∧ Aside0 (Below w.heap.size w wr) ∧ Aside0 (Kd.R k35 35 wr w.heap.size (fun k_ => k_ ≠ w1.heap.size) (.slice A3 ML.length q3) ML) ∧ Aside0 (w1.heap.size < wr.heap.size)) (fun _ _ v33 _ => ML.length - (intOf v33).toNat)
      case atStart => exact ⟨_, 0, 0, 0, rfl, rfl, rfl, by omega, by omega, G2, HI3, HB3, HR3, ⟨by rcases HI3.out with h | h <;> exact h.lt⟩⟩
      case round =>
        obtain ⟨t, x, i, j, rfl, rfl, rfl, h0, h1, HA, HI, HB, HR, HZ⟩ := hrel
        clear G2 HI3 HB3 HR3 HZ3
        have hlm := HLM.out
        by_cases hlt : x < (ML.length : Int)
        · have hA := HA.out
          rw [diff_Show.dropP ML x h0 hlt] at hA
          obtain ⟨ad, e, hx0, hx1⟩ := at_T35 (Kd.R_reads' HR.out).2.2 x h0 hlt
          subst e
          obtain ⟨p, hp⟩ : ∃ q, rd_T35 ML x = q := ⟨_, rfl⟩
          rw [hp] at hA hx0 hx1
          obtain ⟨P0, P1⟩ := p
          dsimp only at hx0 hx1
          simp only [diff_Show.go] at hA
          by_cases hcn : 0 ≤ i ∧ i ≤ P0 ∧ P0 ≤ (l0.length : Int) ∧ 0 ≤ j ∧ j ≤ P1 ∧ P1 ≤ (l1.length : Int)
          · rw [if_pos hcn] at hA
            obtain ⟨s1, hs1, hA⟩ := Option.bind_eq_some_iff.mp hA
            obtain ⟨s2, hs2, hA⟩ := Option.bind_eq_some_iff.mp hA
            obtain ⟨n0, n1, n2, n3, n4, n5⟩ := hcn
            obtain ⟨B0, b0, hcut0, hC0, hb0⟩ := diff_Show.cut_at HR0.out HC0.out n0 n1 n2
            obtain ⟨B1, b1, hcut1, hC1, hb1⟩ := diff_Show.cut_at HR1.out HC1.out n3 n4 n5
            have m0 := HL0.out
            have m1 := HL1.out
            have e1 : IntKind.i64.wrap (P0 + 1) = P0 + 1 := IntWalk.i64_in _ (by omega)
            have e2 : IntKind.i64.wrap (P1 + 1) = P1 + 1 := IntWalk.i64_in _ (by omega)
            have S1 := Aside0.mk hs1
            have S2 := Aside0.mk hs2
            have K0 := Aside0.mk hC0
            have K1 := Aside0.mk hC1
            have J0 := Aside0.mk hb0
            have J1 := Aside0.mk hb1
            have hblk8 : (wr.alloc (.cells #[.int .i64 P0, .int .i64 P1] 35)).heap[wr.heap.size]? = some (.cells #[.int .i64 P0, .int .i64 P1] 35 (0, 0)) := heap_alloc_new wr _
            have BK8 := Aside0.mk hblk8
            have HB8 := Aside0.mk (below_alloc HB.out (.cells #[.int .i64 P0, .int .i64 P1] 35))
            have HZ8 := Aside0.mk (Nat.lt_of_lt_of_le HZ.out (below_size (below_alloc (Below.refl wr.heap.size wr) (.cells #[.int .i64 P0, .int .i64 P1] 35))))
            have HR8 := Aside0.mk (Kd.R_alloc HR.out (.cells #[.int .i64 P0, .int .i64 P1] 35))
            have HI8 := Aside0.mk (HI.out.alloc (.cells #[.int .i64 P0, .int .i64 P1] 35))
            have HG := Aside0.mk (Nat.ne_of_gt HZ.out)
            clear hs1 hs2 hC0 hC1 hb0 hb1 hblk8 HA hp
            by_cases c3 : P0 < (l0.length : Int)
            · rw [if_pos c3] at hA
              obtain ⟨s3, hs3, hA⟩ := Option.bind_eq_some_iff.mp hA
              obtain ⟨B2, b2, hcut2, hC2, hb2⟩ := diff_Show.cut_at HR0.out HC0.out (show 0 ≤ P0 by omega) (show P0 ≤ P0 + 1 by omega) (show P0 + 1 ≤ (l0.length : Int) by omega)
              have S3 := Aside0.mk hs3
              have K2 := Aside0.mk hC2
              have HA2 := Aside0.mk hA
              clear hs3 hC2 hA hb2
              go_wp2_with fail
              refine (diff_Show.put_calls (⟨#[45]⟩ : ByteArray) w1.heap.size w1.heap.size B0 b0 (diff_Show.cut l0 i P0) t s1 w (wr.alloc (.cells #[.int .i64 P0, .int .i64 P1] 35)) (by decide) K0.out HB8.out HI8.out HWb.out (Nat.le_of_lt HZ8.out) S1.out).mono ?_
              rintro e w9 ⟨rfl, hI9, hb9, hk9⟩
              obtain ⟨HI9, HB9, HZ9, BK9, HR9, hc90, hc91⟩ := diff_Show.step hI9 hb9 hk9 HB8.out HWb.out HZ8.out HG.out BK8.out HR8.out
              clear hI9 hb9 hk9
              go_wp2_with fail
              refine (diff_Show.put_calls (⟨#[43]⟩ : ByteArray) w1.heap.size w1.heap.size B1 b1 (diff_Show.cut l1 j P1) s1 s2 w w9 (by decide) K1.out HB9.out HI9.out HWb.out (Nat.le_of_lt HZ9.out) S2.out).mono ?_
              rintro e w10 ⟨rfl, hI10, hb10, hk10⟩
              obtain ⟨HI10, HB10, HZ10, BK10, HR10, hc100, hc101⟩ := diff_Show.step hI10 hb10 hk10 HB9.out HWb.out HZ9.out HG.out BK9.out HR9.out
              clear hI10 hb10 hk10
              go_wp2_with fail
              refine (diff_Show.put_calls (⟨#[32]⟩ : ByteArray) w1.heap.size w1.heap.size B2 b2 (diff_Show.cut l0 P0 (P0 + 1)) s2 s3 w w10 (by decide) K2.out HB10.out HI10.out HWb.out (Nat.le_of_lt HZ10.out) S3.out).mono ?_
              rintro e w11 ⟨rfl, hI11, hb11, hk11⟩
              obtain ⟨HI11, HB11, HZ11, BK11, HR11, hc110, hc111⟩ := diff_Show.step hI11 hb11 hk11 HB10.out HWb.out HZ10.out HG.out BK10.out HR10.out
              clear hI11 hb11 hk11
              go_wp2_with fail
              go_quiet (fail)
              go_wp2
              go_roundw
              case rel => exact ⟨_, x + 1, P0 + 1, P1 + 1, rfl, rfl, rfl, by omega, by omega, HA2, HI11, ⟨diff_Show.below_drewN HB11.out _⟩, HR11, HZ11⟩
              case measure =>
                simp [intOf]
                omega
            · rw [if_neg c3] at hA
              have HA2 := Aside0.mk hA
              clear hA
              go_wp2_with fail
              refine (diff_Show.put_calls (⟨#[45]⟩ : ByteArray) w1.heap.size w1.heap.size B0 b0 (diff_Show.cut l0 i P0) t s1 w (wr.alloc (.cells #[.int .i64 P0, .int .i64 P1] 35)) (by decide) K0.out HB8.out HI8.out HWb.out (Nat.le_of_lt HZ8.out) S1.out).mono ?_
              rintro e w9 ⟨rfl, hI9, hb9, hk9⟩
              obtain ⟨HI9, HB9, HZ9, BK9, HR9, hc90, hc91⟩ := diff_Show.step hI9 hb9 hk9 HB8.out HWb.out HZ8.out HG.out BK8.out HR8.out
              clear hI9 hb9 hk9
              go_wp2_with fail
              refine (diff_Show.put_calls (⟨#[43]⟩ : ByteArray) w1.heap.size w1.heap.size B1 b1 (diff_Show.cut l1 j P1) s1 s2 w w9 (by decide) K1.out HB9.out HI9.out HWb.out (Nat.le_of_lt HZ9.out) S2.out).mono ?_
              rintro e w10 ⟨rfl, hI10, hb10, hk10⟩
              obtain ⟨HI10, HB10, HZ10, BK10, HR10, hc100, hc101⟩ := diff_Show.step hI10 hb10 hk10 HB9.out HWb.out HZ9.out HG.out BK9.out HR9.out
              clear hI10 hb10 hk10
              go_wp2_with fail
              go_quiet (fail)
              go_wp2
              go_roundw
              case rel => exact ⟨_, x + 1, P0 + 1, P1 + 1, rfl, rfl, rfl, by omega, by omega, HA2, HI10, ⟨diff_Show.below_drewN HB10.out _⟩, HR10, HZ10⟩
              case measure =>
                simp [intOf]
                omega
          · rw [if_neg hcn] at hA
            cases hA
        · have hx : x = (ML.length : Int) := by omega
          have hA := HA.out
          rw [hx, Int.toNat_natCast, List.drop_length] at hA
          have hA := Option.some.inj hA
          subst hA
          clear hx HA
          have HZW := Aside0.mk (Nat.le_of_lt HZ.out)
          go_wp2_with (go_at_call 22; refine (Tryd.builder_String w1.heap.size w1.heap.size t.data.toList _ HI.out HZW.out).mono ?_; rintro e w2 ⟨rfl, -, hb2, -⟩; have HB2 := Aside0.mk hb2; clear hb2)
          go_ret2
          exact ⟨by simp, HB.out.trans (HB2.out.mono HWb.out)⟩
    · rw [if_neg cl] at h
      cases h
  · rw [if_neg c0] at h
    have h := Option.some.inj h
    obtain ⟨rfl, rfl⟩ := Prod.mk.injEq .. ▸ h
    have b0 : (e == 0) = false := beq_eq_false_iff_ne.mpr c0
    have b1 : (e != 0) = true := bne_iff_ne.mpr c0
    clear c0 h
    go_enter Tryd.func16, Tryd.ntmps16
    go_wp2_with (first
        | (go_at_call 12; refine (diff_Pairs.calls k A0 _ l0 A1 _ l1 L e _ HR0.out HC0.out HR1.out HC1.out P.out).mono ?_; rintro e w1 ⟨v1, rfl, hR1, hb1⟩; have HB2 := Aside0.mk hb1; clear hR1 hb1))
    go_ret2
    exact ⟨rfl, HB2.out⟩


end Go.Proofs.YtflogdjehghkpaaDoor.M
