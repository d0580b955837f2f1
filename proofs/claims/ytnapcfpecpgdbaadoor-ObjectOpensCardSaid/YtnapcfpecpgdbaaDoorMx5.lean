/- The program's functions as plain functions, and that each call comes to what these tell; written by a program of this session, some contracts by hand. Conditions: none. -/
import Derived.Test.YtnapcfpecpgdbaaDoorMx0
import Derived.Test.YtnapcfpecpgdbaaDoorMx3
import Derived.Test.YtnapcfpecpgdbaaDoorMx4
namespace Go.Proofs.YtnapcfpecpgdbaaDoor.M
open Go.RowKit Go.Proofs.YtnapcfpecpgdbaaDoorW.PrintWords Go.Proofs.YtnapcfpecpgdbaaDoorW.PrintLast Go.Proofs.YtnapcfpecpgdbaaDoorW.PrintMore
attribute [local go_sem] max2_int min2_int max_two min_two max_three min_three max_four min_four   -- for this text's walks alone
set_option linter.unusedVariables false
set_option linter.unusedSimpArgs false

/-! ### ob_ID: function 28 -/
def ob_ID.f (a0 : ByteArray) : Option (ByteArray) := (sum_Of.f a0).bind fun t117 => (some t117)
set_option maxHeartbeats 8000000 in
set_option maxRecDepth 100000 in
theorem ob_ID.calls (a0 : ByteArray) (r : ByteArray) (w : World) (h : ob_ID.f a0 = some r) :
 Calls Tryd.prog 28 #[.string a0] w fun e w' => e = .returned (.string r) ∧ Below w.heap.size w w' := by
 have HB := Aside0.mk (Below.refl w.heap.size w)
 have H : ((sum_Of.f a0).bind fun t117 => (some t117)) = some r := h
 clear h
 replace H := Option.bind_eq_some_iff.mp H
 obtain ⟨t117, A20, H⟩ := H
 try dsimp only at H
 have A2 := Aside0.mk A20
 clear A20
 obtain rfl := Option.some.inj H
 go_enter Tryd.func28, Tryd.ntmps28
 go_wp2_with (first | ((with_reducible refine gate_callee (f := 52) rfl ?_); refine goesM_ (some 4) Tryd.func52 #[.string a0] ?_; (with_reducible refine (sum_Of.calls a0 t117 _ A2.out).mono ?_); rintro e w3 ⟨rfl, hb⟩; refine ⟨_, rfl, ?_⟩; have n0_ := Aside0.mk (below_step bz_ hb); clear HB; have HB := n0_; clear n0_; (try clear hb); (try clear hb2); (try clear hk); (try clear hi)))
 go_ret
 exact ⟨xz_, bz_⟩

/-! ### l7_awake: function 9 -/
def l7_awake.f (k : Nat)  : Option (Bool) := (ob_Raw.f k 1 (⟨#[]⟩ : ByteArray)).bind fun bt118 => ((ob_Open.f k bt118.1).bind fun bt120 => (if bt118.2 = 0 then (if bt118.1.toList = ([98, 108, 111, 98, 32, 48, 0] : List UInt8) then (if bt120.2.2 = 0 then (if bt120.1 = 1 then (if bt120.2.1.toList = ([] : List UInt8) then ((ob_ID.f bt118.1).bind fun t123 => (some ((t123.size : Int) == 32))) else (none)) else (none)) else (none)) else (none)) else (none)))
theorem l7_awake.mono : ∀ k, LeO (l7_awake.f k ) (l7_awake.f (k + 1) ) := by
 intro  k
 unfold l7_awake.f
 repeat' with_reducible first | exact ob_Open.mono _ _ | exact ob_Raw.mono _ _ _ | exact LeO.refl _ | exact LeO.none _ | refine LeO.ite ?_ ?_ | refine LeO.bind ?_ (fun _ => ?_)
set_option maxHeartbeats 8000000 in
set_option maxRecDepth 100000 in
theorem l7_awake.calls (k : Nat)  (r : Bool) (w : World) (h : l7_awake.f k  = some r) :
 Calls Tryd.prog 9 #[] w fun e w' => e = .returned (.bool r) ∧ Below w.heap.size w w' := by
 have HB := Aside0.mk (Below.refl w.heap.size w)
 have H : ((ob_Raw.f k 1 (⟨#[]⟩ : ByteArray)).bind fun bt118 => ((ob_Open.f k bt118.1).bind fun bt120 => (if bt118.2 = 0 then (if bt118.1.toList = ([98, 108, 111, 98, 32, 48, 0] : List UInt8) then (if bt120.2.2 = 0 then (if bt120.1 = 1 then (if bt120.2.1.toList = ([] : List UInt8) then ((ob_ID.f bt118.1).bind fun t123 => (some ((t123.size : Int) == 32))) else (none)) else (none)) else (none)) else (none)) else (none)))) = some r := h
 clear h
 replace H := Option.bind_eq_some_iff.mp H
 obtain ⟨⟨t118, t119⟩, A10, H⟩ := H
 try dsimp only at H
 have A1 := Aside0.mk A10
 clear A10
 replace H := Option.bind_eq_some_iff.mp H
 obtain ⟨⟨t120, t121, t122⟩, A20, H⟩ := H
 try dsimp only at H
 have A2 := Aside0.mk A20
 clear A20
 by_cases c3 : t119 = 0
 ·
  rw [if_pos c3] at H
  have c3b0 : (t119 == 0) = true := beq_iff_eq.mpr c3
  have c3b1 : (t119 != 0) = false := bne_eq_false_iff_eq.mpr c3
  clear c3
  by_cases c4 : t118.toList = ([98, 108, 111, 98, 32, 48, 0] : List UInt8)
  ·
   rw [if_pos c4] at H
   have c4b0 : (t118.toList == ([98, 108, 111, 98, 32, 48, 0] : List UInt8)) = true := beq_iff_eq.mpr c4
   have c4b1 : (t118.toList != ([98, 108, 111, 98, 32, 48, 0] : List UInt8)) = false := bne_eq_false_iff_eq.mpr c4
   clear c4
   by_cases c5 : t122 = 0
   ·
    rw [if_pos c5] at H
    have c5b0 : (t122 == 0) = true := beq_iff_eq.mpr c5
    have c5b1 : (t122 != 0) = false := bne_eq_false_iff_eq.mpr c5
    clear c5
    by_cases c6 : t120 = 1
    ·
     rw [if_pos c6] at H
     have c6b0 : (t120 == 1) = true := beq_iff_eq.mpr c6
     have c6b1 : (t120 != 1) = false := bne_eq_false_iff_eq.mpr c6
     clear c6
     by_cases c7 : t121.toList = ([] : List UInt8)
     ·
      rw [if_pos c7] at H
      have c7b0 : (t121.toList == ([] : List UInt8)) = true := beq_iff_eq.mpr c7
      have c7b1 : (t121.toList != ([] : List UInt8)) = false := bne_eq_false_iff_eq.mpr c7
      clear c7
      replace H := Option.bind_eq_some_iff.mp H
      obtain ⟨t123, A80, H⟩ := H
      try dsimp only at H
      have A8 := Aside0.mk A80
      clear A80
      obtain rfl := Option.some.inj H
      go_enter Tryd.func9, Tryd.ntmps9
      go_wp2_with (first | ((with_reducible refine gate_callee (f := 27) rfl ?_); refine goesM_ (some 7) Tryd.func27 #[.int .i64 1, .string (⟨#[]⟩ : ByteArray)] ?_; (with_reducible refine (ob_Raw.calls k 1 (⟨#[]⟩ : ByteArray) t118 t119 _ A1.out).mono ?_); rintro e w9 ⟨rfl, hb⟩; refine ⟨_, rfl, ?_⟩; have n0_ := Aside0.mk (below_step bz_ hb); clear HB; have HB := n0_; clear n0_; (try clear hb); (try clear hb2); (try clear hk); (try clear hi)) | ((with_reducible refine gate_callee (f := 16) rfl ?_); refine goesM_ (some 12) Tryd.func16 #[.string t118] ?_; (with_reducible refine (ob_Open.calls k t118 t120 t121 t122 _ A2.out).mono ?_); rintro e w10 ⟨rfl, hb⟩; refine ⟨_, rfl, ?_⟩; have n0_ := Aside0.mk (below_step bz_ hb); clear HB; have HB := n0_; clear n0_; (try clear hb); (try clear hb2); (try clear hk); (try clear hi)) | (go_at_call 28; (with_reducible refine (ob_ID.calls t118 t123 _ A8.out).mono ?_); rintro e w11 ⟨rfl, hb⟩; have n0_ := Aside0.mk (below_step bz_ hb); clear HB; have HB := n0_; clear n0_; (try clear hb); (try clear hb2); (try clear hk); (try clear hi)))
      go_ret
      exact ⟨xz_, bz_⟩
     · rw [if_neg c7] at H
       exact absurd H (by simp)
    · rw [if_neg c6] at H
      exact absurd H (by simp)
   · rw [if_neg c5] at H
     exact absurd H (by simp)
  · rw [if_neg c4] at H
    exact absurd H (by simp)
 · rw [if_neg c3] at H
   exact absurd H (by simp)

/-! ### r2_Undec: function 26 -/
mutual
def r2_Undec.j0 : Nat → ByteArray → Bool → Option (Int × Int)
 | 0, _, _ => none
 | k + 1, x0, x23 => if x23 = true then (some (0, 6)) else (r2_Undec.l0 k x0 0 0)
def r2_Undec.l0 : Nat → ByteArray → Int → Int → Option (Int × Int)
 | 0, _, _, _ => none
 | k + 1, x0, x4, x5 => if x5 < (x0.size : Int) then (if 0 ≤ x5 then (if (bt x0 x5) < 48 then (r2_Undec.j2 k x0 x4 x5 true) else (r2_Undec.j2 k x0 x4 x5 (decide ((bt x0 x5) > 57)))) else (none)) else (some (x4, 0))
def r2_Undec.j2 : Nat → ByteArray → Int → Int → Bool → Option (Int × Int)
 | 0, _, _, _, _ => none
 | k + 1, x0, x4, x5, x39 => if x39 = true then (some (0, 6)) else (if 0 ≤ x5 then (if x5 < (x0.size : Int) then (if x4 > 1844674407370955161 then (some (0, 6)) else (if x4 = 1844674407370955161 then (if (IntKind.u64.wrap ((IntKind.u64.wrap (bt x0 x5)) - 48)) > 5 then (some (0, 6)) else (r2_Undec.l0 k x0 (IntKind.u64.wrap ((IntKind.u64.wrap (x4 * 10)) + (IntKind.u64.wrap ((IntKind.u64.wrap (bt x0 x5)) - 48)))) (wrap64 (x5 + 1)))) else (r2_Undec.l0 k x0 (IntKind.u64.wrap ((IntKind.u64.wrap (x4 * 10)) + (IntKind.u64.wrap ((IntKind.u64.wrap (bt x0 x5)) - 48)))) (wrap64 (x5 + 1))))) else (none)) else (none))
end
def r2_Undec.f (k : Nat) (a0 : ByteArray) : Option (Int × Int) := if a0.toList = ([] : List UInt8) then (r2_Undec.j0 k a0 true) else (if (a0.size : Int) > 20 then (r2_Undec.j0 k a0 true) else (if (a0.size : Int) > 1 then (if 0 < (a0.size : Int) then (r2_Undec.j0 k a0 ((bt a0 0) == 48)) else (none)) else (r2_Undec.j0 k a0 false)))
theorem r2_Undec.mono_l : ∀ k, (∀ y0 y1, LeO (r2_Undec.j0 k y0 y1) (r2_Undec.j0 (k + 1) y0 y1)) ∧ (∀ y0 y1 y2, LeO (r2_Undec.l0 k y0 y1 y2) (r2_Undec.l0 (k + 1) y0 y1 y2)) ∧ (∀ y0 y1 y2 y3, LeO (r2_Undec.j2 k y0 y1 y2 y3) (r2_Undec.j2 (k + 1) y0 y1 y2 y3))
 | 0 => ⟨fun _ _ r h => by simp [r2_Undec.j0] at h, fun _ _ _ r h => by simp [r2_Undec.l0] at h, fun _ _ _ _ r h => by simp [r2_Undec.j2] at h⟩
 | k + 1 => by
  obtain ⟨ih0, ih1, ih2⟩ := r2_Undec.mono_l k
  refine ⟨?_, ?_, ?_⟩
  all_goals (intros; first | unfold r2_Undec.j0 | unfold r2_Undec.l0 | unfold r2_Undec.j2)
  all_goals repeat' with_reducible first | exact ih0 _ _ | exact ih1 _ _ _ | exact ih2 _ _ _ _ | exact LeO.refl _ | exact LeO.none _ | refine LeO.ite ?_ ?_ | refine LeO.bind ?_ (fun _ => ?_)
theorem r2_Undec.mono : ∀ a0 k, LeO (r2_Undec.f k a0) (r2_Undec.f (k + 1) a0) := by
 intro a0 k
 obtain ⟨ih0, ih1, ih2⟩ := r2_Undec.mono_l k
 unfold r2_Undec.f
 repeat' with_reducible first | exact ih0 _ _ | exact ih1 _ _ _ | exact ih2 _ _ _ _ | exact LeO.refl _ | exact LeO.none _ | refine LeO.ite ?_ ?_ | refine LeO.bind ?_ (fun _ => ?_)
set_option maxHeartbeats 8000000 in
set_option maxRecDepth 100000 in
theorem r2_Undec.calls (k : Nat) (a0 : ByteArray) (r1 : Int) (r2 : Int) (w : World) (h : r2_Undec.f k a0 = some (r1, r2)) :
 Calls Tryd.prog 26 #[.string a0] w fun e w' => e = .returned (.tuple #[.int .u64 r1, .int .i64 r2]) ∧ Drawn0 w w' := by
 have H : (if a0.toList = ([] : List UInt8) then (r2_Undec.j0 k a0 true) else (if (a0.size : Int) > 20 then (r2_Undec.j0 k a0 true) else (if (a0.size : Int) > 1 then (if 0 < (a0.size : Int) then (r2_Undec.j0 k a0 ((bt a0 0) == 48)) else (none)) else (r2_Undec.j0 k a0 false)))) = some (r1, r2) := h
 clear h
 have HC2 := Aside0.mk H
 clear H
 go_enter Tryd.func26, Tryd.ntmps26
 go_upto_region 1 with (fail)
 go_cut [23] (fun v23 wc => ∃ (kq : Nat) (x23_1 : Bool), v23 = .bool x23_1 ∧ Aside0 (r2_Undec.j0 kq a0 x23_1 = some (r1, r2)) ∧ Aside0 (kq ≤ k) ∧ Drawn0 w wc)
 case first =>
  have H := HC2.out
  clear HC2
  by_cases c3 : a0.toList = ([] : List UInt8)
  · rw [if_pos c3] at H
    have c3b0 : (a0.toList == ([] : List UInt8)) = true := beq_iff_eq.mpr c3
    have c3b1 : (a0.toList != ([] : List UInt8)) = false := bne_eq_false_iff_eq.mpr c3
    clear c3
    (first | rw [c3b0] | (simp only [i64_w, i32_w]; rw [c3b0]) | skip)
    have H' := Aside0.mk H
    clear H
    go_wp2
    go_meet
    case rel => exact ⟨_, (true), ez_, H', ⟨by first | omega | exact Nat.le_refl _⟩, dz_⟩
  ·
   rw [if_neg c3] at H
   have c3b0 : (a0.toList == ([] : List UInt8)) = false := beq_eq_false_iff_ne.mpr c3
   have c3b1 : (a0.toList != ([] : List UInt8)) = true := bne_iff_ne.mpr c3
   (first | rw [c3b0] | (simp only [i64_w, i32_w]; rw [c3b0]) | skip)
   by_cases c4 : (a0.size : Int) > 20
   · rw [if_pos c4] at H
     have c4b0 : decide (20 < (a0.size : Int)) = true := decide_eq_true c4
     have c4b1 : decide (20 < a0.size) = true := decide_eq_true (by omega)
     clear c4
     have H' := Aside0.mk H
     clear H
     go_wp2
     go_meet
     case rel => exact ⟨_, (true), ez_, H', ⟨by first | omega | exact Nat.le_refl _⟩, dz_⟩
   ·
    rw [if_neg c4] at H
    have c4b0 : decide (20 < (a0.size : Int)) = false := decide_eq_false c4
    have c4b1 : decide (20 < a0.size) = false := decide_eq_false (by omega)
    clear c4
    by_cases c5 : (a0.size : Int) > 1
    ·
     rw [if_pos c5] at H
     have c5b0 : decide (1 < (a0.size : Int)) = true := decide_eq_true c5
     have c5b1 : decide (1 < a0.size) = true := decide_eq_true (by omega)
     clear c5
     by_cases c6 : 0 < (a0.size : Int)
     ·
      rw [if_pos c6] at H
      have c6b0 : decide (0 < (a0.size : Int)) = true := decide_eq_true c6
      have c6b1 : decide (0 < a0.size) = true := decide_eq_true (by omega)
      clear c6
      have H' := Aside0.mk H
      clear H
      have p7 : 0 ≤ (0 : Int) := (by omega)
      have q7 : 0 < a0.size := (by have : (0 : Int) < (a0.size : Int) := of_decide_eq_true az_; omega)
      have hx7 : ∀ h : 0 < a0.size, ((a0[0]'h).toNat : Int) = bt a0 0 := bt_at a0 0
      clear p7
      have qi7 : (0 < (a0.size : Int)) = True := eq_true (of_decide_eq_true az_)
      replace q7 := eq_true q7
      go_wp2
      go_meet
      case rel => exact ⟨_, (((bt a0 0) == 48)), ez_, H', ⟨by first | omega | exact Nat.le_refl _⟩, dz_⟩
     · rw [if_neg c6] at H
       exact absurd H (by simp)
    · rw [if_neg c5] at H
      have c5b0 : decide (1 < (a0.size : Int)) = false := decide_eq_false c5
      have c5b1 : decide (1 < a0.size) = false := decide_eq_false (by omega)
      clear c5
      have H' := Aside0.mk H
      clear H
      go_wp2
      go_meet
      case rel => exact ⟨_, (false), ez_, H', ⟨by first | omega | exact Nat.le_refl _⟩, dz_⟩
 case rest =>
  clear HC2
  try clear c2
  try clear p2
  try clear c3
  try clear c3b0
  try clear c3b1
  try clear c4
  try clear c4b0
  try clear c4b1
  try clear c5
  try clear c5b0
  try clear c5b1
  try clear c6
  try clear c6b0
  try clear c6b1
  try clear p7
  try clear q7
  try clear hx7
  try clear qi7
  try clear p7
  try clear q7
  obtain ⟨kq, x23_1, rfl, HA, HJ1, ⟨mc1, rfl⟩⟩ := hcut
  cases kq with
  | zero => exact absurd HA.out (by simp [r2_Undec.j0])
  | succ kj1 =>
   have H := HA.out
   clear HA
   simp only [r2_Undec.j0] at H
   by_cases c8 : x23_1 = true
   · subst c8
     have H1 := H
     rw [if_pos rfl] at H1
     clear H
     have H := H1
     clear H1
     simp only [Option.some.injEq, Prod.mk.injEq] at H
     obtain ⟨rfl, rfl⟩ := H
     go_wp2
     go_ret2
     exact ⟨ez_, dz_⟩
   ·
    replace c8 := Bool.eq_false_iff.mpr c8
    subst c8
    have H1 := H
    rw [if_neg (show ¬ (false = true) by decide)] at H1
    clear H
    have H := H1
    clear H1
    have H' := Aside0.mk H
    clear H
    go_wp2
    go_loopg [4, 5] kj1 (fun kq v4 v5 w' => ∃ (x4_2 : Int) (x5_2 : Int), v4 = .int .u64 x4_2 ∧ v5 = .int .i64 x5_2 ∧ Aside0 (r2_Undec.l0 kq a0 x4_2 x5_2 = some (r1, r2)) ∧ Aside0 (kq ≤ kj1) ∧ Drawn0 w w')
    case atStart => exact ⟨(0), (0), ez_, ez_, H', ⟨Nat.le_refl _⟩, dz_⟩
    case round =>
     clear H'
     try clear c1
     try clear c2
     try clear p2
     try clear c3
     try clear c3b0
     try clear c3b1
     try clear c4
     try clear c4b0
     try clear c4b1
     try clear c5
     try clear c5b0
     try clear c5b1
     try clear c6
     try clear c6b0
     try clear c6b1
     try clear p7
     try clear q7
     try clear hx7
     try clear qi7
     try clear c8
     try clear p2
     try clear p7
     try clear q7
     obtain ⟨x4_2, x5_2, rfl, rfl, HA, HK2, ⟨m2, rfl⟩⟩ := hrel
     cases gk with
     | zero => exact absurd HA.out (by simp [r2_Undec.l0])
     | succ k2 =>
      have H := HA.out
      clear HA
      simp only [r2_Undec.l0] at H
      by_cases c9 : x5_2 < (a0.size : Int)
      ·
       rw [if_pos c9] at H
       have c9b0 : decide (x5_2 < (a0.size : Int)) = true := decide_eq_true c9
       clear c9
       have HC10 := Aside0.mk H
       clear H
       go_upto_region 7 with (fail)
       go_cut [39] (fun v39 wc => ∃ (kq : Nat) (x39_9 : Bool), v39 = .bool x39_9 ∧ Aside0 (r2_Undec.j2 kq a0 x4_2 x5_2 x39_9 = some (r1, r2)) ∧ Aside0 (kq ≤ k2) ∧ Drawn0 w wc)
       case first =>
        have H := HC10.out
        clear HC10
        by_cases c11 : 0 ≤ x5_2
        ·
         rw [if_pos c11] at H
         have c11b0 : decide (0 ≤ x5_2) = true := decide_eq_true c11
         clear c11
         (first | rw [c11b0] | (simp only [i64_w, i32_w]; rw [c11b0]) | skip)
         by_cases c13 : (bt a0 x5_2) < 48
         · rw [if_pos c13] at H
           have c13b0 : decide ((bt a0 x5_2) < 48) = true := decide_eq_true c13
           clear c13
           have H' := Aside0.mk H
           clear H
           have p12 : 0 ≤ (x5_2 : Int) := of_decide_eq_true az_
           have q12 : x5_2 < (a0.size : Int) := of_decide_eq_true az_
           have hx12 := bt_at a0 x5_2
           replace p12 := eq_true p12
           replace q12 := eq_true q12
           go_wp2
           go_meet
           case rel => exact ⟨_, (true), ez_, H', ⟨by have := HJ1.out; have := HK2.out; first | omega | exact Nat.le_refl _⟩, dz_⟩
         ·
          rw [if_neg c13] at H
          have c13b0 : decide ((bt a0 x5_2) < 48) = false := decide_eq_false c13
          clear c13
          have H' := Aside0.mk H
          clear H
          have p12 : 0 ≤ (x5_2 : Int) := of_decide_eq_true az_
          have q12 : x5_2 < (a0.size : Int) := of_decide_eq_true az_
          have hx12 := bt_at a0 x5_2
          replace p12 := eq_true p12
          replace q12 := eq_true q12
          have p14 : 0 ≤ (x5_2 : Int) := of_decide_eq_true az_
          have q14 : x5_2 < (a0.size : Int) := of_decide_eq_true az_
          have hx14 := bt_at a0 x5_2
          replace p14 := eq_true p14
          replace q14 := eq_true q14
          go_wp2
          go_meet
          case rel => exact ⟨_, (decide ((bt a0 x5_2) > 57)), ez_, H', ⟨by have := HJ1.out; have := HK2.out; first | omega | exact Nat.le_refl _⟩, dz_⟩
        · rw [if_neg c11] at H
          exact absurd H (by simp)
       case rest =>
        clear HC10
        try clear c1
        try clear p1
        try clear q1
        try clear hx1
        try clear c2
        try clear p2
        try clear c3
        try clear c3b0
        try clear c3b1
        try clear c4
        try clear c4b0
        try clear c4b1
        try clear c5
        try clear c5b0
        try clear c5b1
        try clear c6
        try clear c6b0
        try clear c6b1
        try clear p7
        try clear q7
        try clear hx7
        try clear qi7
        try clear c8
        try clear c9
        try clear c9b0
        try clear c11
        try clear c11b0
        try clear p12
        try clear q12
        try clear hx12
        try clear c13
        try clear c13b0
        try clear p14
        try clear q14
        try clear hx14
        try clear p12
        try clear p14
        try clear p2
        try clear p7
        try clear q12
        try clear q14
        try clear q7
        obtain ⟨kq, x39_9, rfl, HA, HJ9, ⟨mc9, rfl⟩⟩ := hcut
        cases kq with
        | zero => exact absurd HA.out (by simp [r2_Undec.j2])
        | succ kj9 =>
         have H := HA.out
         clear HA
         simp only [r2_Undec.j2] at H
         by_cases c15 : x39_9 = true
         · subst c15
           have H1 := H
           rw [if_pos rfl] at H1
           clear H
           have H := H1
           clear H1
           simp only [Option.some.injEq, Prod.mk.injEq] at H
           obtain ⟨rfl, rfl⟩ := H
           go_wp2
           go_ret2
           exact ⟨ez_, dz_⟩
         ·
          replace c15 := Bool.eq_false_iff.mpr c15
          subst c15
          have H1 := H
          rw [if_neg (show ¬ (false = true) by decide)] at H1
          clear H
          have H := H1
          clear H1
          by_cases c16 : 0 ≤ x5_2
          ·
           rw [if_pos c16] at H
           have c16b0 : decide (0 ≤ x5_2) = true := decide_eq_true c16
           clear c16
           by_cases c17 : x5_2 < (a0.size : Int)
           ·
            rw [if_pos c17] at H
            have c17b0 : decide (x5_2 < (a0.size : Int)) = true := decide_eq_true c17
            clear c17
            by_cases c19 : x4_2 > 1844674407370955161
            · rw [if_pos c19] at H
              have c19b0 : decide (1844674407370955161 < x4_2) = true := decide_eq_true c19
              clear c19
              simp only [Option.some.injEq, Prod.mk.injEq] at H
              obtain ⟨rfl, rfl⟩ := H
              have p18 : 0 ≤ (x5_2 : Int) := of_decide_eq_true az_
              have q18 : x5_2 < (a0.size : Int) := of_decide_eq_true az_
              have hx18 := bt_at a0 x5_2
              replace p18 := eq_true p18
              replace q18 := eq_true q18
              go_wp2
              go_ret2
              exact ⟨ez_, dz_⟩
            ·
             rw [if_neg c19] at H
             have c19b0 : decide (1844674407370955161 < x4_2) = false := decide_eq_false c19
             clear c19
             by_cases c20 : x4_2 = 1844674407370955161
             ·
              rw [if_pos c20] at H
              have c20b0 : (x4_2 == 1844674407370955161) = true := beq_iff_eq.mpr c20
              have c20b1 : (x4_2 != 1844674407370955161) = false := bne_eq_false_iff_eq.mpr c20
              clear c20
              by_cases c21 : (IntKind.u64.wrap ((IntKind.u64.wrap (bt a0 x5_2)) - 48)) > 5
              · rw [if_pos c21] at H
                have c21b0 : decide (5 < (IntKind.u64.wrap ((IntKind.u64.wrap (bt a0 x5_2)) - 48))) = true := decide_eq_true c21
                clear c21
                simp only [Option.some.injEq, Prod.mk.injEq] at H
                obtain ⟨rfl, rfl⟩ := H
                have p18 : 0 ≤ (x5_2 : Int) := of_decide_eq_true az_
                have q18 : x5_2 < (a0.size : Int) := of_decide_eq_true az_
                have hx18 := bt_at a0 x5_2
                replace p18 := eq_true p18
                replace q18 := eq_true q18
                go_wp2
                go_ret2
                exact ⟨ez_, dz_⟩
              ·
               rw [if_neg c21] at H
               have c21b0 : decide (5 < (IntKind.u64.wrap ((IntKind.u64.wrap (bt a0 x5_2)) - 48))) = false := decide_eq_false c21
               clear c21
               have H' := Aside0.mk H
               clear H
               have p18 : 0 ≤ (x5_2 : Int) := of_decide_eq_true az_
               have q18 : x5_2 < (a0.size : Int) := of_decide_eq_true az_
               have hx18 := bt_at a0 x5_2
               replace p18 := eq_true p18
               replace q18 := eq_true q18
               go_wp2
               go_roundg kj9
               case measure => have := HJ1.out; have := HK2.out; have := HJ9.out; omega
               case rel => exact ⟨(IntKind.u64.wrap ((IntKind.u64.wrap (x4_2 * 10)) + (IntKind.u64.wrap ((IntKind.u64.wrap (bt a0 x5_2)) - 48)))), (wrap64 (x5_2 + 1)), ez_, ez_, H', ⟨by have := HJ1.out; have := HK2.out; have := HJ9.out; omega⟩, dz_⟩
             ·
              rw [if_neg c20] at H
              have c20b0 : (x4_2 == 1844674407370955161) = false := beq_eq_false_iff_ne.mpr c20
              have c20b1 : (x4_2 != 1844674407370955161) = true := bne_iff_ne.mpr c20
              have H' := Aside0.mk H
              clear H
              have p18 : 0 ≤ (x5_2 : Int) := of_decide_eq_true az_
              have q18 : x5_2 < (a0.size : Int) := of_decide_eq_true az_
              have hx18 := bt_at a0 x5_2
              replace p18 := eq_true p18
              replace q18 := eq_true q18
              go_wp2
              go_roundg kj9
              case measure => have := HJ1.out; have := HK2.out; have := HJ9.out; omega
              case rel => exact ⟨(IntKind.u64.wrap ((IntKind.u64.wrap (x4_2 * 10)) + (IntKind.u64.wrap ((IntKind.u64.wrap (bt a0 x5_2)) - 48)))), (wrap64 (x5_2 + 1)), ez_, ez_, H', ⟨by have := HJ1.out; have := HK2.out; have := HJ9.out; omega⟩, dz_⟩
           · rw [if_neg c17] at H
             exact absurd H (by simp)
          · rw [if_neg c16] at H
            exact absurd H (by simp)
      · rw [if_neg c9] at H
        have c9b0 : decide (x5_2 < (a0.size : Int)) = false := decide_eq_false c9
        clear c9
        simp only [Option.some.injEq, Prod.mk.injEq] at H
        obtain ⟨rfl, rfl⟩ := H
        go_wp2
        go_ret2
        exact ⟨ez_, dz_⟩

end Go.Proofs.YtnapcfpecpgdbaaDoor.M
