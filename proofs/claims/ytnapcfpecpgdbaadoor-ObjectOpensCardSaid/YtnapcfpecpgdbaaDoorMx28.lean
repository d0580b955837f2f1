/- The program's functions as plain functions, and that each call comes to what these tell; written by a program of this session, some contracts by hand. Conditions: none. -/
import Derived.Test.YtnapcfpecpgdbaaDoorMx0
import Derived.Test.YtnapcfpecpgdbaaDoorMx1
import Derived.Test.YtnapcfpecpgdbaaDoorMx2
import Derived.Test.YtnapcfpecpgdbaaDoorMx3
import Derived.Test.YtnapcfpecpgdbaaDoorMx5
import Derived.Test.YtnapcfpecpgdbaaDoorMx6
import Derived.Test.YtnapcfpecpgdbaaDoorMx14
import Derived.Test.YtnapcfpecpgdbaaDoorMx27
namespace Go.Proofs.YtnapcfpecpgdbaaDoor.M
open Go.RowKit Go.Proofs.YtnapcfpecpgdbaaDoorW.PrintWords Go.Proofs.YtnapcfpecpgdbaaDoorW.PrintLast Go.Proofs.YtnapcfpecpgdbaaDoorW.PrintMore
attribute [local go_sem] max2_int min2_int max_two min_two max_three min_three max_four min_four   -- for this text's walks alone
set_option linter.unusedVariables false
set_option linter.unusedSimpArgs false

attribute [local go_sem high] eqA55
/-! ### l7_ObjectOpens: function 5 -/
mutual
def l7_ObjectOpens.j0 : Nat → List (S56) → List (S55) → Bool → Option (Bool)
 | 0, _, _, _ => none
 | k + 1, x9, x11, x68 => if x68 = true then (none) else (l7_ObjectOpens.l0 k x9 x11 0)
def l7_ObjectOpens.l0 : Nat → List (S56) → List (S55) → Int → Option (Bool)
 | 0, _, _, _ => none
 | k + 1, x9, x11, x13 => if x13 < (x11.length : Int) then (if 0 ≤ x13 then (if x13 < (x9.length : Int) then (if (!(((rd_T56 x9 x13).f0) == ((rd_T55 x11 x13).f0)) || (!((((rd_T56 x9 x13).f1).toList) == (((rd_T55 x11 x13).f1).toList)))) = true then (none) else (l7_ObjectOpens.l0 k x9 x11 (wrap64 (x13 + 1)))) else (none)) else (none)) else (some true)
end
def l7_ObjectOpens.f (k : Nat) (a0 : ByteArray) : Option (Bool) := (l7_few.f a0).bind fun t396 => ((ob_Open.f k t396).bind fun bt397 => ((r7_Open.f k t396).bind fun bt400 => ((ob_Links.f k t396).bind fun bt403 => ((r7_Links.f k t396).bind fun bt407 => ((l7_awake.f k).bind fun t411 => (if t411 = true then (if bt397.1 = bt400.1 then (if bt397.2.1.toList = bt400.2.1.toList then (if bt397.2.2 = bt400.2.2 then (if bt403.2 = bt407.2 then (l7_ObjectOpens.j0 k bt403.1 bt407.1 ((bt403.1.length : Int) != (bt407.1.length : Int))) else (l7_ObjectOpens.j0 k bt403.1 bt407.1 true)) else (l7_ObjectOpens.j0 k bt403.1 bt407.1 true)) else (l7_ObjectOpens.j0 k bt403.1 bt407.1 true)) else (l7_ObjectOpens.j0 k bt403.1 bt407.1 true)) else (l7_ObjectOpens.j0 k bt403.1 bt407.1 true)))))))
theorem l7_ObjectOpens.mono_l : ∀ k, (∀ y0 y1 y2, LeO (l7_ObjectOpens.j0 k y0 y1 y2) (l7_ObjectOpens.j0 (k + 1) y0 y1 y2)) ∧ (∀ y0 y1 y2, LeO (l7_ObjectOpens.l0 k y0 y1 y2) (l7_ObjectOpens.l0 (k + 1) y0 y1 y2))
 | 0 => ⟨fun _ _ _ r h => by simp [l7_ObjectOpens.j0] at h, fun _ _ _ r h => by simp [l7_ObjectOpens.l0] at h⟩
 | k + 1 => by
  obtain ⟨ih0, ih1⟩ := l7_ObjectOpens.mono_l k
  refine ⟨?_, ?_⟩
  all_goals (intros; first | unfold l7_ObjectOpens.j0 | unfold l7_ObjectOpens.l0)
  all_goals repeat' with_reducible first | exact ih0 _ _ _ | exact ih1 _ _ _ | exact ob_Links.mono _ _ | exact ob_Open.mono _ _ | exact l7_awake.mono _ | exact r7_Links.mono _ _ | exact r7_Open.mono _ _ | exact LeO.refl _ | exact LeO.none _ | refine LeO.ite ?_ ?_ | refine LeO.bind ?_ (fun _ => ?_)
theorem l7_ObjectOpens.mono : ∀ a0 k, LeO (l7_ObjectOpens.f k a0) (l7_ObjectOpens.f (k + 1) a0) := by
 intro a0 k
 obtain ⟨ih0, ih1⟩ := l7_ObjectOpens.mono_l k
 unfold l7_ObjectOpens.f
 repeat' with_reducible first | exact ih0 _ _ _ | exact ih1 _ _ _ | exact ob_Links.mono _ _ | exact ob_Open.mono _ _ | exact l7_awake.mono _ | exact r7_Links.mono _ _ | exact r7_Open.mono _ _ | exact LeO.refl _ | exact LeO.none _ | refine LeO.ite ?_ ?_ | refine LeO.bind ?_ (fun _ => ?_)
set_option maxHeartbeats 8000000 in
set_option maxRecDepth 100000 in
theorem l7_ObjectOpens.calls (k : Nat) (a0 : ByteArray) (r : Bool) (w : World) (h : l7_ObjectOpens.f k a0 = some r) :
 Calls Tryd.prog 5 #[.string a0] w fun e w' => e = .returned (.bool r) ∧ Below w.heap.size w w' := by
 have hu56 := Tryd.underlying56
 have hu55 := Tryd.underlying55
 have HB := Aside0.mk (Below.refl w.heap.size w)
 have H : ((l7_few.f a0).bind fun t396 => ((ob_Open.f k t396).bind fun bt397 => ((r7_Open.f k t396).bind fun bt400 => ((ob_Links.f k t396).bind fun bt403 => ((r7_Links.f k t396).bind fun bt407 => ((l7_awake.f k).bind fun t411 => (if t411 = true then (if bt397.1 = bt400.1 then (if bt397.2.1.toList = bt400.2.1.toList then (if bt397.2.2 = bt400.2.2 then (if bt403.2 = bt407.2 then (l7_ObjectOpens.j0 k bt403.1 bt407.1 ((bt403.1.length : Int) != (bt407.1.length : Int))) else (l7_ObjectOpens.j0 k bt403.1 bt407.1 true)) else (l7_ObjectOpens.j0 k bt403.1 bt407.1 true)) else (l7_ObjectOpens.j0 k bt403.1 bt407.1 true)) else (l7_ObjectOpens.j0 k bt403.1 bt407.1 true)) else (l7_ObjectOpens.j0 k bt403.1 bt407.1 true)))))))) = some r := h
 clear h
 replace H := Option.bind_eq_some_iff.mp H
 obtain ⟨t396, A20, H⟩ := H
 try dsimp only at H
 have A2 := Aside0.mk A20
 clear A20
 replace H := Option.bind_eq_some_iff.mp H
 obtain ⟨⟨t397, t398, t399⟩, A30, H⟩ := H
 try dsimp only at H
 have A3 := Aside0.mk A30
 clear A30
 replace H := Option.bind_eq_some_iff.mp H
 obtain ⟨⟨t400, t401, t402⟩, A40, H⟩ := H
 try dsimp only at H
 have A4 := Aside0.mk A40
 clear A40
 replace H := Option.bind_eq_some_iff.mp H
 obtain ⟨⟨t403, t404⟩, A50, H⟩ := H
 try dsimp only at H
 have A5 := Aside0.mk A50
 clear A50
 replace H := Option.bind_eq_some_iff.mp H
 obtain ⟨⟨t407, t408⟩, A60, H⟩ := H
 try dsimp only at H
 have A6 := Aside0.mk A60
 clear A60
 have HC7 := Aside0.mk H
 clear H
 go_enter Tryd.func5, Tryd.ntmps5
 go_upto_region 5 with (first | (go_at_call 7; (with_reducible refine (l7_few.calls a0 t396 _ A2.out).mono ?_); rintro e w' ⟨rfl, ⟨nd, rfl⟩⟩; (try exact wz_)) | (go_at_call 16; (with_reducible refine (ob_Open.calls k t396 t397 t398 t399 _ A3.out).mono ?_); rintro e w8 ⟨rfl, hb⟩; have n0_ := Aside0.mk (below_step bz_ hb); clear HB; have HB := n0_; clear n0_; (try clear hb); (try clear hb2); (try clear hk); (try clear hi)) | (go_at_call 7; (with_reducible refine (l7_few.calls a0 t396 _ A2.out).mono ?_); rintro e w' ⟨rfl, ⟨nd, rfl⟩⟩; (try exact wz_)) | (go_at_call 17; (with_reducible refine (r7_Open.calls k t396 t400 t401 t402 _ A4.out).mono ?_); rintro e w9 ⟨rfl, hb⟩; have n0_ := Aside0.mk (below_step bz_ hb); clear HB; have HB := n0_; clear n0_; (try clear hb); (try clear hb2); (try clear hk); (try clear hi)) | (go_at_call 7; (with_reducible refine (l7_few.calls a0 t396 _ A2.out).mono ?_); rintro e w' ⟨rfl, ⟨nd, rfl⟩⟩; (try exact wz_)) | (go_at_call 18; (with_reducible refine (ob_Links.calls k t396 t403 t404 _ A5.out).mono ?_); rintro e w10 ⟨v405, rfl, ho0, hb⟩; have n0_ := Aside0.mk (Kd.R_lower ho0 (below_size bz_)); have n1_ := Aside0.mk (below_step bz_ hb); clear HB; have HO406 := n0_; have HB := n1_; clear n0_ n1_; (try clear hb); (try clear hb2); (try clear hk); (try clear hi); (try clear ho0)) | (go_at_call 7; (with_reducible refine (l7_few.calls a0 t396 _ A2.out).mono ?_); rintro e w' ⟨rfl, ⟨nd, rfl⟩⟩; (try exact wz_)) | (go_at_call 19; (with_reducible refine (r7_Links.calls k t396 t407 t408 _ A6.out).mono ?_); rintro e w11 ⟨v409, rfl, ho0, hb⟩; have n0_ := Aside0.mk (Kd.R_below (rz_ HO406.out) hb); have n1_ := Aside0.mk (Kd.R_lower ho0 (below_size bz_)); have n2_ := Aside0.mk (below_step bz_ hb); clear HO406; clear HB; have HO406 := n0_; have HO410 := n1_; have HB := n2_; clear n0_ n1_ n2_; (try clear hb); (try clear hb2); (try clear hk); (try clear hi); (try clear ho0)))
 repeat (go_quiet (first | (go_at_call 7; (with_reducible refine (l7_few.calls a0 t396 _ A2.out).mono ?_); rintro e w' ⟨rfl, ⟨nd, rfl⟩⟩; (try exact wz_)) | (go_at_call 16; (with_reducible refine (ob_Open.calls k t396 t397 t398 t399 _ A3.out).mono ?_); rintro e w8 ⟨rfl, hb⟩; have n0_ := Aside0.mk (below_step bz_ hb); clear HB; have HB := n0_; clear n0_; (try clear hb); (try clear hb2); (try clear hk); (try clear hi)) | (go_at_call 7; (with_reducible refine (l7_few.calls a0 t396 _ A2.out).mono ?_); rintro e w' ⟨rfl, ⟨nd, rfl⟩⟩; (try exact wz_)) | (go_at_call 17; (with_reducible refine (r7_Open.calls k t396 t400 t401 t402 _ A4.out).mono ?_); rintro e w9 ⟨rfl, hb⟩; have n0_ := Aside0.mk (below_step bz_ hb); clear HB; have HB := n0_; clear n0_; (try clear hb); (try clear hb2); (try clear hk); (try clear hi)) | (go_at_call 7; (with_reducible refine (l7_few.calls a0 t396 _ A2.out).mono ?_); rintro e w' ⟨rfl, ⟨nd, rfl⟩⟩; (try exact wz_)) | (go_at_call 18; (with_reducible refine (ob_Links.calls k t396 t403 t404 _ A5.out).mono ?_); rintro e w10 ⟨v405, rfl, ho0, hb⟩; have n0_ := Aside0.mk (Kd.R_lower ho0 (below_size bz_)); have n1_ := Aside0.mk (below_step bz_ hb); clear HB; have HO406 := n0_; have HB := n1_; clear n0_ n1_; (try clear hb); (try clear hb2); (try clear hk); (try clear hi); (try clear ho0)) | (go_at_call 7; (with_reducible refine (l7_few.calls a0 t396 _ A2.out).mono ?_); rintro e w' ⟨rfl, ⟨nd, rfl⟩⟩; (try exact wz_)) | (go_at_call 19; (with_reducible refine (r7_Links.calls k t396 t407 t408 _ A6.out).mono ?_); rintro e w11 ⟨v409, rfl, ho0, hb⟩; have n0_ := Aside0.mk (Kd.R_below (rz_ HO406.out) hb); have n1_ := Aside0.mk (Kd.R_lower ho0 (below_size bz_)); have n2_ := Aside0.mk (below_step bz_ hb); clear HO406; clear HB; have HO406 := n0_; have HO410 := n1_; have HB := n2_; clear n0_ n1_ n2_; (try clear hb); (try clear hb2); (try clear hk); (try clear hi); (try clear ho0))); go_upto_region 5 with (first | (go_at_call 7; (with_reducible refine (l7_few.calls a0 t396 _ A2.out).mono ?_); rintro e w' ⟨rfl, ⟨nd, rfl⟩⟩; (try exact wz_)) | (go_at_call 16; (with_reducible refine (ob_Open.calls k t396 t397 t398 t399 _ A3.out).mono ?_); rintro e w8 ⟨rfl, hb⟩; have n0_ := Aside0.mk (below_step bz_ hb); clear HB; have HB := n0_; clear n0_; (try clear hb); (try clear hb2); (try clear hk); (try clear hi)) | (go_at_call 7; (with_reducible refine (l7_few.calls a0 t396 _ A2.out).mono ?_); rintro e w' ⟨rfl, ⟨nd, rfl⟩⟩; (try exact wz_)) | (go_at_call 17; (with_reducible refine (r7_Open.calls k t396 t400 t401 t402 _ A4.out).mono ?_); rintro e w9 ⟨rfl, hb⟩; have n0_ := Aside0.mk (below_step bz_ hb); clear HB; have HB := n0_; clear n0_; (try clear hb); (try clear hb2); (try clear hk); (try clear hi)) | (go_at_call 7; (with_reducible refine (l7_few.calls a0 t396 _ A2.out).mono ?_); rintro e w' ⟨rfl, ⟨nd, rfl⟩⟩; (try exact wz_)) | (go_at_call 18; (with_reducible refine (ob_Links.calls k t396 t403 t404 _ A5.out).mono ?_); rintro e w10 ⟨v405, rfl, ho0, hb⟩; have n0_ := Aside0.mk (Kd.R_lower ho0 (below_size bz_)); have n1_ := Aside0.mk (below_step bz_ hb); clear HB; have HO406 := n0_; have HB := n1_; clear n0_ n1_; (try clear hb); (try clear hb2); (try clear hk); (try clear hi); (try clear ho0)) | (go_at_call 7; (with_reducible refine (l7_few.calls a0 t396 _ A2.out).mono ?_); rintro e w' ⟨rfl, ⟨nd, rfl⟩⟩; (try exact wz_)) | (go_at_call 19; (with_reducible refine (r7_Links.calls k t396 t407 t408 _ A6.out).mono ?_); rintro e w11 ⟨v409, rfl, ho0, hb⟩; have n0_ := Aside0.mk (Kd.R_below (rz_ HO406.out) hb); have n1_ := Aside0.mk (Kd.R_lower ho0 (below_size bz_)); have n2_ := Aside0.mk (below_step bz_ hb); clear HO406; clear HB; have HO406 := n0_; have HO410 := n1_; have HB := n2_; clear n0_ n1_ n2_; (try clear hb); (try clear hb2); (try clear hk); (try clear hi); (try clear ho0))))
 (try simp only [Act.put, List.setIfInBounds_toArray, List.set_cons_zero, List.set_cons_succ])
 go_cut [68] (fun v68 wc => ∃ (kq : Nat) (x68_6 : Bool), v68 = .bool x68_6 ∧ Aside0 (l7_ObjectOpens.j0 kq t403 t407 x68_6 = some r) ∧ Aside0 (kq ≤ k) ∧ Aside0 (Kd.R k56 56 wc w.heap.size (fun _ => True) v405 t403) ∧ Aside0 (Kd.R k55 55 wc w.heap.size (fun _ => True) v409 t407) ∧ Aside0 (Below w.heap.size w wc))
 case first =>
  have H := HC7.out
  clear HC7
  replace H := Option.bind_eq_some_iff.mp H
  obtain ⟨t411, A120, H⟩ := H
  try dsimp only at H
  have A12 := Aside0.mk A120
  clear A120
  by_cases c13 : t411 = true
  ·
   subst c13
   have H1 := H
   rw [if_pos rfl] at H1
   clear H
   have H := H1
   clear H1
   by_cases c14 : t397 = t400
   ·
    rw [if_pos c14] at H
    have c14b0 : (t397 == t400) = true := beq_iff_eq.mpr c14
    have c14b1 : (t397 != t400) = false := bne_eq_false_iff_eq.mpr c14
    clear c14
    (first | rw [c14b0] | (simp only [i64_w, i32_w]; rw [c14b0]) | skip)
    by_cases c15 : t398.toList = t401.toList
    ·
     rw [if_pos c15] at H
     have c15b0 : (t398.toList == t401.toList) = true := beq_iff_eq.mpr c15
     have c15b1 : (t398.toList != t401.toList) = false := bne_eq_false_iff_eq.mpr c15
     clear c15
     by_cases c16 : t399 = t402
     ·
      rw [if_pos c16] at H
      have c16b0 : (t399 == t402) = true := beq_iff_eq.mpr c16
      have c16b1 : (t399 != t402) = false := bne_eq_false_iff_eq.mpr c16
      clear c16
      by_cases c17 : t404 = t408
      · rw [if_pos c17] at H
        have c17b0 : (t404 == t408) = true := beq_iff_eq.mpr c17
        have c17b1 : (t404 != t408) = false := bne_eq_false_iff_eq.mpr c17
        clear c17
        have H' := Aside0.mk H
        clear H
        go_wp2_with (first | (go_at_call 9; (with_reducible refine (l7_awake.calls k  true _ A12.out).mono ?_); rintro e w18 ⟨rfl, hb⟩; have n0_ := Aside0.mk (Kd.R_below (rz_ HO406.out) hb); have n1_ := Aside0.mk (Kd.R_below (rz_ HO410.out) hb); have n2_ := Aside0.mk (below_step bz_ hb); clear HO406; clear HO410; clear HB; have HO406 := n0_; have HO410 := n1_; have HB := n2_; clear n0_ n1_ n2_; (try clear hb); (try clear hb2); (try clear hk); (try clear hi); obtain ⟨Ao19, co19, eo19⟩ := Kd.R_slice HO406.out; subst eo19; obtain ⟨Ao20, co20, eo20⟩ := Kd.R_slice HO410.out; subst eo20))
        repeat (go_quiet (first | (go_at_call 9; (with_reducible refine (l7_awake.calls k  true _ A12.out).mono ?_); rintro e w18 ⟨rfl, hb⟩; have n0_ := Aside0.mk (Kd.R_below (rz_ HO406.out) hb); have n1_ := Aside0.mk (Kd.R_below (rz_ HO410.out) hb); have n2_ := Aside0.mk (below_step bz_ hb); clear HO406; clear HO410; clear HB; have HO406 := n0_; have HO410 := n1_; have HB := n2_; clear n0_ n1_ n2_; (try clear hb); (try clear hb2); (try clear hk); (try clear hi); obtain ⟨Ao19, co19, eo19⟩ := Kd.R_slice HO406.out; subst eo19; obtain ⟨Ao20, co20, eo20⟩ := Kd.R_slice HO410.out; subst eo20)); try go_wp2_with (first | (go_at_call 9; (with_reducible refine (l7_awake.calls k  true _ A12.out).mono ?_); rintro e w18 ⟨rfl, hb⟩; have n0_ := Aside0.mk (Kd.R_below (rz_ HO406.out) hb); have n1_ := Aside0.mk (Kd.R_below (rz_ HO410.out) hb); have n2_ := Aside0.mk (below_step bz_ hb); clear HO406; clear HO410; clear HB; have HO406 := n0_; have HO410 := n1_; have HB := n2_; clear n0_ n1_ n2_; (try clear hb); (try clear hb2); (try clear hk); (try clear hi); obtain ⟨Ao19, co19, eo19⟩ := Kd.R_slice HO406.out; subst eo19; obtain ⟨Ao20, co20, eo20⟩ := Kd.R_slice HO410.out; subst eo20)))
        go_meet
        case rel => exact ⟨_, (((t403.length : Int) != (t407.length : Int))), ez_, H', ⟨by first | omega | exact Nat.le_refl _⟩, ⟨rz_ HO406.out⟩, ⟨rz_ HO410.out⟩, ⟨bz_⟩⟩
      · rw [if_neg c17] at H
        have c17b0 : (t404 == t408) = false := beq_eq_false_iff_ne.mpr c17
        have c17b1 : (t404 != t408) = true := bne_iff_ne.mpr c17
        have H' := Aside0.mk H
        clear H
        go_wp2_with (first | (go_at_call 9; (with_reducible refine (l7_awake.calls k  true _ A12.out).mono ?_); rintro e w21 ⟨rfl, hb⟩; have n0_ := Aside0.mk (Kd.R_below (rz_ HO406.out) hb); have n1_ := Aside0.mk (Kd.R_below (rz_ HO410.out) hb); have n2_ := Aside0.mk (below_step bz_ hb); clear HO406; clear HO410; clear HB; have HO406 := n0_; have HO410 := n1_; have HB := n2_; clear n0_ n1_ n2_; (try clear hb); (try clear hb2); (try clear hk); (try clear hi)))
        repeat (go_quiet (first | (go_at_call 9; (with_reducible refine (l7_awake.calls k  true _ A12.out).mono ?_); rintro e w21 ⟨rfl, hb⟩; have n0_ := Aside0.mk (Kd.R_below (rz_ HO406.out) hb); have n1_ := Aside0.mk (Kd.R_below (rz_ HO410.out) hb); have n2_ := Aside0.mk (below_step bz_ hb); clear HO406; clear HO410; clear HB; have HO406 := n0_; have HO410 := n1_; have HB := n2_; clear n0_ n1_ n2_; (try clear hb); (try clear hb2); (try clear hk); (try clear hi))); try go_wp2_with (first | (go_at_call 9; (with_reducible refine (l7_awake.calls k  true _ A12.out).mono ?_); rintro e w21 ⟨rfl, hb⟩; have n0_ := Aside0.mk (Kd.R_below (rz_ HO406.out) hb); have n1_ := Aside0.mk (Kd.R_below (rz_ HO410.out) hb); have n2_ := Aside0.mk (below_step bz_ hb); clear HO406; clear HO410; clear HB; have HO406 := n0_; have HO410 := n1_; have HB := n2_; clear n0_ n1_ n2_; (try clear hb); (try clear hb2); (try clear hk); (try clear hi))))
        go_meet
        case rel => exact ⟨_, (true), ez_, H', ⟨by first | omega | exact Nat.le_refl _⟩, ⟨rz_ HO406.out⟩, ⟨rz_ HO410.out⟩, ⟨bz_⟩⟩
     · rw [if_neg c16] at H
       have c16b0 : (t399 == t402) = false := beq_eq_false_iff_ne.mpr c16
       have c16b1 : (t399 != t402) = true := bne_iff_ne.mpr c16
       have H' := Aside0.mk H
       clear H
       go_wp2_with (first | (go_at_call 9; (with_reducible refine (l7_awake.calls k  true _ A12.out).mono ?_); rintro e w22 ⟨rfl, hb⟩; have n0_ := Aside0.mk (Kd.R_below (rz_ HO406.out) hb); have n1_ := Aside0.mk (Kd.R_below (rz_ HO410.out) hb); have n2_ := Aside0.mk (below_step bz_ hb); clear HO406; clear HO410; clear HB; have HO406 := n0_; have HO410 := n1_; have HB := n2_; clear n0_ n1_ n2_; (try clear hb); (try clear hb2); (try clear hk); (try clear hi)))
       repeat (go_quiet (first | (go_at_call 9; (with_reducible refine (l7_awake.calls k  true _ A12.out).mono ?_); rintro e w22 ⟨rfl, hb⟩; have n0_ := Aside0.mk (Kd.R_below (rz_ HO406.out) hb); have n1_ := Aside0.mk (Kd.R_below (rz_ HO410.out) hb); have n2_ := Aside0.mk (below_step bz_ hb); clear HO406; clear HO410; clear HB; have HO406 := n0_; have HO410 := n1_; have HB := n2_; clear n0_ n1_ n2_; (try clear hb); (try clear hb2); (try clear hk); (try clear hi))); try go_wp2_with (first | (go_at_call 9; (with_reducible refine (l7_awake.calls k  true _ A12.out).mono ?_); rintro e w22 ⟨rfl, hb⟩; have n0_ := Aside0.mk (Kd.R_below (rz_ HO406.out) hb); have n1_ := Aside0.mk (Kd.R_below (rz_ HO410.out) hb); have n2_ := Aside0.mk (below_step bz_ hb); clear HO406; clear HO410; clear HB; have HO406 := n0_; have HO410 := n1_; have HB := n2_; clear n0_ n1_ n2_; (try clear hb); (try clear hb2); (try clear hk); (try clear hi))))
       go_meet
       case rel => exact ⟨_, (true), ez_, H', ⟨by first | omega | exact Nat.le_refl _⟩, ⟨rz_ HO406.out⟩, ⟨rz_ HO410.out⟩, ⟨bz_⟩⟩
    · rw [if_neg c15] at H
      have c15b0 : (t398.toList == t401.toList) = false := beq_eq_false_iff_ne.mpr c15
      have c15b1 : (t398.toList != t401.toList) = true := bne_iff_ne.mpr c15
      have H' := Aside0.mk H
      clear H
      go_wp2_with (first | (go_at_call 9; (with_reducible refine (l7_awake.calls k  true _ A12.out).mono ?_); rintro e w23 ⟨rfl, hb⟩; have n0_ := Aside0.mk (Kd.R_below (rz_ HO406.out) hb); have n1_ := Aside0.mk (Kd.R_below (rz_ HO410.out) hb); have n2_ := Aside0.mk (below_step bz_ hb); clear HO406; clear HO410; clear HB; have HO406 := n0_; have HO410 := n1_; have HB := n2_; clear n0_ n1_ n2_; (try clear hb); (try clear hb2); (try clear hk); (try clear hi)))
      repeat (go_quiet (first | (go_at_call 9; (with_reducible refine (l7_awake.calls k  true _ A12.out).mono ?_); rintro e w23 ⟨rfl, hb⟩; have n0_ := Aside0.mk (Kd.R_below (rz_ HO406.out) hb); have n1_ := Aside0.mk (Kd.R_below (rz_ HO410.out) hb); have n2_ := Aside0.mk (below_step bz_ hb); clear HO406; clear HO410; clear HB; have HO406 := n0_; have HO410 := n1_; have HB := n2_; clear n0_ n1_ n2_; (try clear hb); (try clear hb2); (try clear hk); (try clear hi))); try go_wp2_with (first | (go_at_call 9; (with_reducible refine (l7_awake.calls k  true _ A12.out).mono ?_); rintro e w23 ⟨rfl, hb⟩; have n0_ := Aside0.mk (Kd.R_below (rz_ HO406.out) hb); have n1_ := Aside0.mk (Kd.R_below (rz_ HO410.out) hb); have n2_ := Aside0.mk (below_step bz_ hb); clear HO406; clear HO410; clear HB; have HO406 := n0_; have HO410 := n1_; have HB := n2_; clear n0_ n1_ n2_; (try clear hb); (try clear hb2); (try clear hk); (try clear hi))))
      go_meet
      case rel => exact ⟨_, (true), ez_, H', ⟨by first | omega | exact Nat.le_refl _⟩, ⟨rz_ HO406.out⟩, ⟨rz_ HO410.out⟩, ⟨bz_⟩⟩
   · rw [if_neg c14] at H
     have c14b0 : (t397 == t400) = false := beq_eq_false_iff_ne.mpr c14
     have c14b1 : (t397 != t400) = true := bne_iff_ne.mpr c14
     (first | rw [c14b0] | (simp only [i64_w, i32_w]; rw [c14b0]) | skip)
     have H' := Aside0.mk H
     clear H
     go_wp2_with (first | (go_at_call 9; (with_reducible refine (l7_awake.calls k  true _ A12.out).mono ?_); rintro e w24 ⟨rfl, hb⟩; have n0_ := Aside0.mk (Kd.R_below (rz_ HO406.out) hb); have n1_ := Aside0.mk (Kd.R_below (rz_ HO410.out) hb); have n2_ := Aside0.mk (below_step bz_ hb); clear HO406; clear HO410; clear HB; have HO406 := n0_; have HO410 := n1_; have HB := n2_; clear n0_ n1_ n2_; (try clear hb); (try clear hb2); (try clear hk); (try clear hi)))
     repeat (go_quiet (first | (go_at_call 9; (with_reducible refine (l7_awake.calls k  true _ A12.out).mono ?_); rintro e w24 ⟨rfl, hb⟩; have n0_ := Aside0.mk (Kd.R_below (rz_ HO406.out) hb); have n1_ := Aside0.mk (Kd.R_below (rz_ HO410.out) hb); have n2_ := Aside0.mk (below_step bz_ hb); clear HO406; clear HO410; clear HB; have HO406 := n0_; have HO410 := n1_; have HB := n2_; clear n0_ n1_ n2_; (try clear hb); (try clear hb2); (try clear hk); (try clear hi))); try go_wp2_with (first | (go_at_call 9; (with_reducible refine (l7_awake.calls k  true _ A12.out).mono ?_); rintro e w24 ⟨rfl, hb⟩; have n0_ := Aside0.mk (Kd.R_below (rz_ HO406.out) hb); have n1_ := Aside0.mk (Kd.R_below (rz_ HO410.out) hb); have n2_ := Aside0.mk (below_step bz_ hb); clear HO406; clear HO410; clear HB; have HO406 := n0_; have HO410 := n1_; have HB := n2_; clear n0_ n1_ n2_; (try clear hb); (try clear hb2); (try clear hk); (try clear hi))))
     go_meet
     case rel => exact ⟨_, (true), ez_, H', ⟨by first | omega | exact Nat.le_refl _⟩, ⟨rz_ HO406.out⟩, ⟨rz_ HO410.out⟩, ⟨bz_⟩⟩
  · replace c13 := Bool.eq_false_iff.mpr c13
    subst c13
    have H1 := H
    rw [if_neg (show ¬ (false = true) by decide)] at H1
    clear H
    have H := H1
    clear H1
    have H' := Aside0.mk H
    clear H
    go_wp2_with (first | (go_at_call 9; (with_reducible refine (l7_awake.calls k  false _ A12.out).mono ?_); rintro e w25 ⟨rfl, hb⟩; have n0_ := Aside0.mk (Kd.R_below (rz_ HO406.out) hb); have n1_ := Aside0.mk (Kd.R_below (rz_ HO410.out) hb); have n2_ := Aside0.mk (below_step bz_ hb); clear HO406; clear HO410; clear HB; have HO406 := n0_; have HO410 := n1_; have HB := n2_; clear n0_ n1_ n2_; (try clear hb); (try clear hb2); (try clear hk); (try clear hi)))
    repeat (go_quiet (first | (go_at_call 9; (with_reducible refine (l7_awake.calls k  false _ A12.out).mono ?_); rintro e w25 ⟨rfl, hb⟩; have n0_ := Aside0.mk (Kd.R_below (rz_ HO406.out) hb); have n1_ := Aside0.mk (Kd.R_below (rz_ HO410.out) hb); have n2_ := Aside0.mk (below_step bz_ hb); clear HO406; clear HO410; clear HB; have HO406 := n0_; have HO410 := n1_; have HB := n2_; clear n0_ n1_ n2_; (try clear hb); (try clear hb2); (try clear hk); (try clear hi))); try go_wp2_with (first | (go_at_call 9; (with_reducible refine (l7_awake.calls k  false _ A12.out).mono ?_); rintro e w25 ⟨rfl, hb⟩; have n0_ := Aside0.mk (Kd.R_below (rz_ HO406.out) hb); have n1_ := Aside0.mk (Kd.R_below (rz_ HO410.out) hb); have n2_ := Aside0.mk (below_step bz_ hb); clear HO406; clear HO410; clear HB; have HO406 := n0_; have HO410 := n1_; have HB := n2_; clear n0_ n1_ n2_; (try clear hb); (try clear hb2); (try clear hk); (try clear hi))))
    go_meet
    case rel => exact ⟨_, (true), ez_, H', ⟨by first | omega | exact Nat.le_refl _⟩, ⟨rz_ HO406.out⟩, ⟨rz_ HO410.out⟩, ⟨bz_⟩⟩
 case rest =>
  clear HC7
  try clear c1
  try clear p2
  try clear c5
  try clear c13
  try clear c14
  try clear c14b0
  try clear c14b1
  try clear c15
  try clear c15b0
  try clear c15b1
  try clear c16
  try clear c16b0
  try clear c16b1
  try clear c17
  try clear c17b0
  try clear c17b1
  obtain ⟨kq, x68_6, rfl, HA, HJ6, HO_9, HO_11, HB⟩ := hcut
  cases kq with
  | zero => exact absurd HA.out (by simp [l7_ObjectOpens.j0])
  | succ kj6 =>
   have H := HA.out
   clear HA
   simp only [l7_ObjectOpens.j0] at H
   by_cases c26 : x68_6 = true
   · subst c26
     have H1 := H
     rw [if_pos rfl] at H1
     clear H
     have H := H1
     clear H1
     exact absurd H (by simp)
   ·
    replace c26 := Bool.eq_false_iff.mpr c26
    subst c26
    have H1 := H
    rw [if_neg (show ¬ (false = true) by decide)] at H1
    clear H
    have H := H1
    clear H1
    have H' := Aside0.mk H
    clear H
    go_wp2
    repeat (go_quiet (fail); try go_wp2)
    go_loopg [13] kj6 (fun kq v13 w' => ∃ (x13_2 : Int), v13 = .int .i64 x13_2 ∧ Aside0 (l7_ObjectOpens.l0 kq t403 t407 x13_2 = some r) ∧ Aside0 (kq ≤ kj6) ∧ Aside0 (Kd.R k56 56 w' w.heap.size (fun _ => True) v405 t403) ∧ Aside0 (Kd.R k55 55 w' w.heap.size (fun _ => True) v409 t407) ∧ Aside0 (Below w.heap.size w w'))
    case atStart => exact ⟨(0), ez_, H', ⟨Nat.le_refl _⟩, ⟨rz_ HO_9.out⟩, ⟨rz_ HO_11.out⟩, ⟨bz_⟩⟩
    case round =>
     clear H'
     try clear c1
     try clear c2
     try clear p2
     try clear c5
     try clear c13
     try clear c14
     try clear c14b0
     try clear c14b1
     try clear c15
     try clear c15b0
     try clear c15b1
     try clear c16
     try clear c16b0
     try clear c16b1
     try clear c17
     try clear c17b0
     try clear c17b1
     try clear c26
     try clear p2
     obtain ⟨x13_2, rfl, HA, HK2, HO_9, HO_11, HB⟩ := hrel
     cases gk with
     | zero => exact absurd HA.out (by simp [l7_ObjectOpens.l0])
     | succ k2 =>
      have H := HA.out
      clear HA
      simp only [l7_ObjectOpens.l0] at H
      by_cases c27 : x13_2 < (t407.length : Int)
      ·
       rw [if_pos c27] at H
       have c27b0 : decide (x13_2 < (t407.length : Int)) = true := decide_eq_true c27
       clear c27
       by_cases c28 : 0 ≤ x13_2
       ·
        rw [if_pos c28] at H
        have c28b0 : decide (0 ≤ x13_2) = true := decide_eq_true c28
        clear c28
        by_cases c29 : x13_2 < (t403.length : Int)
        ·
         rw [if_pos c29] at H
         have c29b0 : decide (x13_2 < (t403.length : Int)) = true := decide_eq_true c29
         clear c29
         by_cases c30 : (!(((rd_T56 t403 x13_2).f0) == ((rd_T55 t407 x13_2).f0)) || (!((((rd_T56 t403 x13_2).f1).toList) == (((rd_T55 t407 x13_2).f1).toList)))) = true
         · rw [if_pos c30] at H
           exact absurd H (by simp)
         ·
          rw [if_neg c30] at H
          have c30b0 : (!(((rd_T56 t403 x13_2).f0) == ((rd_T55 t407 x13_2).f0)) || (!((((rd_T56 t403 x13_2).f1).toList) == (((rd_T55 t407 x13_2).f1).toList)))) = false := by simpa using c30
          clear c30
          have H' := Aside0.mk H
          clear H
          obtain ⟨Ao31, co31, eo31⟩ := Kd.R_slice HO_11.out
          subst eo31
          obtain ⟨Ao32, co32, eo32⟩ := Kd.R_slice HO_9.out
          subst eo32
          have p412 : 0 ≤ (x13_2 : Int) := of_decide_eq_true az_
          have q412 : x13_2 < (t403.length : Int) := of_decide_eq_true az_
          obtain ⟨ad412, e412, hx412_0, hx412_1⟩ := at_T56 (Kd.R_reads' HO_9.out).2.2 x13_2 p412 q412
          cases e412
          replace p412 := eq_true p412
          replace q412 := eq_true q412
          have p413 : 0 ≤ (x13_2 : Int) := of_decide_eq_true az_
          have q413 : x13_2 < (t407.length : Int) := of_decide_eq_true az_
          obtain ⟨ad413, e413, hx413_0, hx413_1⟩ := at_T55 (Kd.R_reads' HO_11.out).2.2 x13_2 p413 q413
          cases e413
          replace p413 := eq_true p413
          replace q413 := eq_true q413
          go_wp2
          repeat (go_quiet (fail); try go_wp2)
          go_roundg k2
          case measure => have := HJ6.out; have := HK2.out; omega
          case rel => exact ⟨(wrap64 (x13_2 + 1)), ez_, H', ⟨by have := HJ6.out; have := HK2.out; omega⟩, ⟨rz_ HO_9.out⟩, ⟨rz_ HO_11.out⟩, ⟨bz_⟩⟩
        · rw [if_neg c29] at H
          exact absurd H (by simp)
       · rw [if_neg c28] at H
         exact absurd H (by simp)
      · rw [if_neg c27] at H
        have c27b0 : decide (x13_2 < (t407.length : Int)) = false := decide_eq_false c27
        clear c27
        obtain rfl := Option.some.inj H
        obtain ⟨Ao33, co33, eo33⟩ := Kd.R_slice HO_11.out
        subst eo33
        go_wp2
        repeat (go_quiet (fail); try go_wp2)
        go_ret
        exact ⟨xz_, bz_⟩

/-- THE ONE PURE STATEMENT of l7_ObjectOpens: yours. -/
def l7_ObjectOpens.Pure : Prop := ∀ (a0 : ByteArray), a0.size ≤ 140737488351232 → ∃ k, l7_ObjectOpens.f k a0 = some true
theorem l7_ObjectOpens.walk (P : l7_ObjectOpens.Pure) (a0 : ByteArray) (w : World) (w0 : a0.size ≤ 140737488351232) :
 Calls Tryd.prog 5 #[.string a0] w fun e w' => e = .returned (.bool true) ∧ Below w.heap.size w w' := by
 obtain ⟨k, h⟩ := P a0 w0
 refine (l7_ObjectOpens.calls k a0 true w h).mono ?_
 rintro e w' ⟨rfl, hd⟩
 exact ⟨rfl, hd⟩

end Go.Proofs.YtnapcfpecpgdbaaDoor.M
