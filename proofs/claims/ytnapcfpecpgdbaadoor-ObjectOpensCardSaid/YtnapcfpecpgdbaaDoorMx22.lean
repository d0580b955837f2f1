/- The program's functions as plain functions, and that each call comes to what these tell; written by a program of this session, some contracts by hand. Conditions: none. -/
import Derived.Test.YtnapcfpecpgdbaaDoorMx0
import Derived.Test.YtnapcfpecpgdbaaDoorMx16
namespace Go.Proofs.YtnapcfpecpgdbaaDoor.M
open Go.RowKit Go.Proofs.YtnapcfpecpgdbaaDoorW.PrintWords Go.Proofs.YtnapcfpecpgdbaaDoorW.PrintLast Go.Proofs.YtnapcfpecpgdbaaDoorW.PrintMore
attribute [local go_sem] max2_int min2_int max_two min_two max_three min_three max_four min_four   -- for this text's walks alone
set_option linter.unusedVariables false
set_option linter.unusedSimpArgs false

/-! ### r6_index: function 66 -/
def r6_index.l0 : Nat → ByteArray → Int → Int → Option (Int)
 | 0, _, _, _ => none
 | k + 1, x0, x1, x5 => if x5 < (x0.size : Int) then (if 0 ≤ x5 then (if (bt x0 x5) = x1 then (some x5) else (r6_index.l0 k x0 x1 (wrap64 (x5 + 1)))) else (none)) else (some (-1))
def r6_index.f (k : Nat) (a0 : ByteArray) (a1 : Int) : Option (Int) := r6_index.l0 k a0 a1 0
theorem r6_index.mono_l : ∀ k, (∀ y0 y1 y2, LeO (r6_index.l0 k y0 y1 y2) (r6_index.l0 (k + 1) y0 y1 y2))
 | 0 => fun _ _ _ r h => by simp [r6_index.l0] at h
 | k + 1 => by
  have ih0 := r6_index.mono_l k
  · intro y0 y1 y2
    unfold r6_index.l0
    repeat' with_reducible first | exact ih0 _ _ _ | exact LeO.refl _ | exact LeO.none _ | refine LeO.ite ?_ ?_ | refine LeO.bind ?_ (fun _ => ?_)
theorem r6_index.mono : ∀ a0 a1 k, LeO (r6_index.f k a0 a1) (r6_index.f (k + 1) a0 a1) := by
 intro a0 a1 k
 have ih0 := r6_index.mono_l k
 unfold r6_index.f
 repeat' with_reducible first | exact ih0 _ _ _ | exact LeO.refl _ | exact LeO.none _ | refine LeO.ite ?_ ?_ | refine LeO.bind ?_ (fun _ => ?_)
set_option maxHeartbeats 8000000 in
set_option maxRecDepth 100000 in
theorem r6_index.calls (k : Nat) (a0 : ByteArray) (a1 : Int) (r : Int) (w : World) (h : r6_index.f k a0 a1 = some r) :
 Calls Tryd.prog 66 #[.string a0, .int .u8 a1] w fun e w' => e = .returned (.int .i64 r) ∧ Drawn0 w w' := by
 have H : (r6_index.l0 k a0 a1 0) = some r := h
 clear h
 have H' := Aside0.mk H
 clear H
 go_enter Tryd.func66, Tryd.ntmps66
 go_wp2
 go_loopg [5] k (fun kq v5 w' => ∃ (x5_1 : Int), v5 = .int .i64 x5_1 ∧ Aside0 (r6_index.l0 kq a0 a1 x5_1 = some r) ∧ Aside0 (kq ≤ k) ∧ Drawn0 w w')
 case atStart => exact ⟨(0), ez_, H', ⟨Nat.le_refl _⟩, dz_⟩
 case round =>
  clear H'
  try clear p2
  obtain ⟨x5_1, rfl, HA, HK1, ⟨m1, rfl⟩⟩ := hrel
  cases gk with
  | zero => exact absurd HA.out (by simp [r6_index.l0])
  | succ k1 =>
   have H := HA.out
   clear HA
   simp only [r6_index.l0] at H
   by_cases c3 : x5_1 < (a0.size : Int)
   ·
    rw [if_pos c3] at H
    have c3b0 : decide (x5_1 < (a0.size : Int)) = true := decide_eq_true c3
    clear c3
    by_cases c4 : 0 ≤ x5_1
    ·
     rw [if_pos c4] at H
     have c4b0 : decide (0 ≤ x5_1) = true := decide_eq_true c4
     clear c4
     by_cases c6 : (bt a0 x5_1) = a1
     · rw [if_pos c6] at H
       have c6b0 : ((bt a0 x5_1) == a1) = true := beq_iff_eq.mpr c6
       have c6b1 : ((bt a0 x5_1) != a1) = false := bne_eq_false_iff_eq.mpr c6
       clear c6
       obtain rfl := Option.some.inj H
       have p5 : 0 ≤ (x5_1 : Int) := of_decide_eq_true az_
       have q5 : x5_1 < (a0.size : Int) := of_decide_eq_true az_
       have hx5 := bt_at a0 x5_1
       replace p5 := eq_true p5
       replace q5 := eq_true q5
       go_wp2
       go_ret
       exact ⟨ez_, dz_⟩
     ·
      rw [if_neg c6] at H
      have c6b0 : ((bt a0 x5_1) == a1) = false := beq_eq_false_iff_ne.mpr c6
      have c6b1 : ((bt a0 x5_1) != a1) = true := bne_iff_ne.mpr c6
      have H' := Aside0.mk H
      clear H
      have p5 : 0 ≤ (x5_1 : Int) := of_decide_eq_true az_
      have q5 : x5_1 < (a0.size : Int) := of_decide_eq_true az_
      have hx5 := bt_at a0 x5_1
      replace p5 := eq_true p5
      replace q5 := eq_true q5
      go_wp2
      go_roundg k1
      case measure => have := HK1.out; omega
      case rel => exact ⟨(wrap64 (x5_1 + 1)), ez_, H', ⟨by have := HK1.out; omega⟩, dz_⟩
    · rw [if_neg c4] at H
      exact absurd H (by simp)
   · rw [if_neg c3] at H
     have c3b0 : decide (x5_1 < (a0.size : Int)) = false := decide_eq_false c3
     clear c3
     obtain rfl := Option.some.inj H
     go_wp2
     go_ret
     exact ⟨ez_, dz_⟩

/-! ### r6_mode: function 67 -/
def r6_mode.f (a0 : Int) : Option (ByteArray) := (some (([(⟨#[]⟩ : ByteArray), (⟨#[102, 105, 108, 101]⟩ : ByteArray), (⟨#[114, 117, 110]⟩ : ByteArray), (⟨#[116, 114, 101, 101]⟩ : ByteArray)] : List ByteArray) : List ByteArray)).bind fun y313 => (if 0 ≤ a0 then (if a0 < (y313.length : Int) then (some (rdOf ByteArray.empty y313 a0)) else (none)) else (none))
set_option maxHeartbeats 8000000 in
set_option maxRecDepth 100000 in
theorem r6_mode.calls (a0 : Int) (r : ByteArray) (w : World) (h : r6_mode.f a0 = some r) :
 Calls Tryd.prog 67 #[.int .i64 a0] w fun e w' => e = .returned (.string r) ∧ Below w.heap.size w w' := by
 have HB := Aside0.mk (Below.refl w.heap.size w)
 have H : ((some (([(⟨#[]⟩ : ByteArray), (⟨#[102, 105, 108, 101]⟩ : ByteArray), (⟨#[114, 117, 110]⟩ : ByteArray), (⟨#[116, 114, 101, 101]⟩ : ByteArray)] : List ByteArray) : List ByteArray)).bind fun y313 => (if 0 ≤ a0 then (if a0 < (y313.length : Int) then (some (rdOf ByteArray.empty y313 a0)) else (none)) else (none))) = some r := h
 clear h
 obtain ⟨y313, hy313⟩ : ∃ y_ : List ByteArray, y_ = (([(⟨#[]⟩ : ByteArray), (⟨#[102, 105, 108, 101]⟩ : ByteArray), (⟨#[114, 117, 110]⟩ : ByteArray), (⟨#[116, 114, 101, 101]⟩ : ByteArray)] : List ByteArray)) := ⟨_, rfl⟩
 replace H : (if 0 ≤ a0 then (if a0 < (y313.length : Int) then (some (rdOf ByteArray.empty y313 a0)) else (none)) else (none)) = some r := by first | (rw [hy313]; with_reducible exact H) | (have H2_ := (Option.bind_some _ _).symm.trans H; rw [hy313]; with_reducible exact H2_) | (have H2_ := (Option.bind_some _ _).symm.trans H; with_reducible exact H2_) | with_reducible exact H | (rw [hy313]; exact H) | exact H
 have Ny313 := Aside0.mk hy313
 clear hy313
 by_cases c2 : 0 ≤ a0
 ·
  rw [if_pos c2] at H
  have c2b0 : decide (0 ≤ a0) = true := decide_eq_true c2
  clear c2
  by_cases c3 : a0 < (y313.length : Int)
  · rw [if_pos c3] at H
    have c3b0 : decide (a0 < (y313.length : Int)) = true := decide_eq_true c3
    clear c3
    obtain rfl := Option.some.inj H
    go_enter Tryd.func67, Tryd.ntmps67
    go_wp2_with (first | ((with_reducible refine gate_dst (N := 3) rfl ?_); refine Kd.R_lit Kd.string _ 9 ?hg (N := 3) ?hd (xs := ([(⟨#[]⟩ : ByteArray), (⟨#[102, 105, 108, 101]⟩ : ByteArray), (⟨#[114, 117, 110]⟩ : ByteArray), (⟨#[116, 114, 101, 101]⟩ : ByteArray)] : List ByteArray)) (inner := [.string (⟨#[]⟩ : ByteArray), .string (⟨#[102, 105, 108, 101]⟩ : ByteArray), .string (⟨#[114, 117, 110]⟩ : ByteArray), .string (⟨#[116, 114, 101, 101]⟩ : ByteArray)]) (ok := fun _ => True) (okp := fun _ => True) ?hr ?hp (fun _ hk => hk) trivial (Below.refl _ _) (Nat.le_refl _) (by simp) ?_; (case hd => rfl); (case hg => rfl); (case hr => first | (go_simp; done) | (go_simp; rfl)); (case hp => exact (Reps.one (show Kd.M Kd.string _ _ _ (⟨#[]⟩ : ByteArray) [.string (⟨#[]⟩ : ByteArray)] from rfl) (Reps.one (show Kd.M Kd.string _ _ _ (⟨#[102, 105, 108, 101]⟩ : ByteArray) [.string (⟨#[102, 105, 108, 101]⟩ : ByteArray)] from rfl) (Reps.one (show Kd.M Kd.string _ _ _ (⟨#[114, 117, 110]⟩ : ByteArray) [.string (⟨#[114, 117, 110]⟩ : ByteArray)] from rfl) (Reps.one (show Kd.M Kd.string _ _ _ (⟨#[116, 114, 101, 101]⟩ : ByteArray) [.string (⟨#[116, 114, 101, 101]⟩ : ByteArray)] from rfl) (Reps.none _ _)))))); intro v314 w4 ho5 hb hg_ hnew_; clear hg_ hnew_; (first | rw [← Ny313.out] at ho5 | (simp only [Int.reduceToNat] at ho5; rw [← Ny313.out] at ho5)); have n0_ := Aside0.mk (Kd.R_lower ho5 (below_size bz_)); have n1_ := Aside0.mk (below_step bz_ hb); clear HB; have HO315 := n0_; have HB := n1_; clear n0_ n1_; clear hb ho5; obtain ⟨Ao6, co6, eo6⟩ := Kd.R_slice HO315.out; subst eo6; have p316 : 0 ≤ (a0 : Int) := of_decide_eq_true az_; have q316 : a0 < (y313.length : Int) := of_decide_eq_true az_; obtain ⟨ad316, e316, hx316_0⟩ := Kd.at_string (Kd.R_reads' HO315.out).2.2 a0 p316 q316; cases e316; replace p316 := eq_true p316; replace q316 := eq_true q316))
    go_ret
    exact ⟨xz_, bz_⟩
  · rw [if_neg c3] at H
    exact absurd H (by simp)
 · rw [if_neg c2] at H
   exact absurd H (by simp)

/-! ### r6_Check: function 68 -/
mutual
def r6_Check.l0 : Nat → List (S86) → Int → Option (Int)
 | 0, _, _ => none
 | k + 1, x0, x3 => if x3 < (x0.length : Int) then (if 0 ≤ x3 then ((r5_Name.f k ((rd_T86 x0 x3).f0)).bind fun t318 => (if t318 = true then (if ((rd_T86 x0 x3).f1) < 1 then (r6_Check.j1 k x0 x3 true) else (r6_Check.j1 k x0 x3 (decide (((rd_T86 x0 x3).f1) > 3)))) else (some 50))) else (none)) else (some 0)
def r6_Check.j1 : Nat → List (S86) → Int → Bool → Option (Int)
 | 0, _, _, _ => none
 | k + 1, x0, x3, x33 => if x33 = true then (some 60) else (if 0 ≤ x3 then (if x3 < (x0.length : Int) then (if (((rd_T86 x0 x3).f2).size : Int) = 32 then (if x3 > 0 then (if 0 ≤ (wrap64 (x3 - 1)) then (if (wrap64 (x3 - 1)) < (x0.length : Int) then (if (Op.bytesLess (((rd_T86 x0 x3).f0).toList) (((rd_T86 x0 (wrap64 (x3 - 1))).f0).toList) || (((rd_T86 x0 x3).f0).toList) == (((rd_T86 x0 (wrap64 (x3 - 1))).f0).toList)) = true then (some 61) else (r6_Check.l0 k x0 (wrap64 (x3 + 1)))) else (none)) else (none)) else (r6_Check.l0 k x0 (wrap64 (x3 + 1)))) else (some 6)) else (none)) else (none))
end
def r6_Check.f (k : Nat) (l0 : List (S86)) : Option (Int) := if (l0.length : Int) > 256 then (some 3) else (r6_Check.l0 k l0 0)
theorem r6_Check.mono_l : ∀ k, (∀ y0 y1, LeO (r6_Check.l0 k y0 y1) (r6_Check.l0 (k + 1) y0 y1)) ∧ (∀ y0 y1 y2, LeO (r6_Check.j1 k y0 y1 y2) (r6_Check.j1 (k + 1) y0 y1 y2))
 | 0 => ⟨fun _ _ r h => by simp [r6_Check.l0] at h, fun _ _ _ r h => by simp [r6_Check.j1] at h⟩
 | k + 1 => by
  obtain ⟨ih0, ih1⟩ := r6_Check.mono_l k
  refine ⟨?_, ?_⟩
  all_goals (intros; first | unfold r6_Check.l0 | unfold r6_Check.j1)
  all_goals repeat' with_reducible first | exact ih0 _ _ | exact ih1 _ _ _ | exact r5_Name.mono _ _ | exact LeO.refl _ | exact LeO.none _ | refine LeO.ite ?_ ?_ | refine LeO.bind ?_ (fun _ => ?_)
theorem r6_Check.mono : ∀ a0 k, LeO (r6_Check.f k a0) (r6_Check.f (k + 1) a0) := by
 intro a0 k
 obtain ⟨ih0, ih1⟩ := r6_Check.mono_l k
 unfold r6_Check.f
 repeat' with_reducible first | exact ih0 _ _ | exact ih1 _ _ _ | exact r5_Name.mono _ _ | exact LeO.refl _ | exact LeO.none _ | refine LeO.ite ?_ ?_ | refine LeO.bind ?_ (fun _ => ?_)
set_option maxHeartbeats 8000000 in
set_option maxRecDepth 100000 in
theorem r6_Check.calls (k : Nat) (A0 : Option Addr) (c0 : Nat) (l0 : List (S86)) (r : Int) (w : World) (hr0 : Kd.C k86 w A0 l0.length l0) (hc0 : l0.length ≤ c0) (h : r6_Check.f k l0 = some r) :
 Calls Tryd.prog 68 #[.slice A0 l0.length c0] w fun e w' => e = .returned (.int .i64 r) ∧ Drawn0 w w' := by
 have HR0 := Aside0.mk hr0
 have HC0 := Aside0.mk hc0
 clear hr0 hc0
 have H : (if (l0.length : Int) > 256 then (some 3) else (r6_Check.l0 k l0 0)) = some r := h
 clear h
 by_cases c2 : (l0.length : Int) > 256
 · rw [if_pos c2] at H
   have c2b0 : decide (256 < (l0.length : Int)) = true := decide_eq_true c2
   have c2b1 : decide (256 < l0.length) = true := decide_eq_true (by omega)
   clear c2
   obtain rfl := Option.some.inj H
   go_enter Tryd.func68, Tryd.ntmps68
   go_wp2
   repeat (go_quiet (fail); try go_wp2)
   go_ret
   exact ⟨ez_, dz_⟩
 ·
  rw [if_neg c2] at H
  have c2b0 : decide (256 < (l0.length : Int)) = false := decide_eq_false c2
  have c2b1 : decide (256 < l0.length) = false := decide_eq_false (by omega)
  clear c2
  have H' := Aside0.mk H
  clear H
  go_enter Tryd.func68, Tryd.ntmps68
  go_wp2
  repeat (go_quiet (fail); try go_wp2)
  go_loopg [3] k (fun kq v3 w' => ∃ (x3_1 : Int), v3 = .int .i64 x3_1 ∧ Aside0 (r6_Check.l0 kq l0 x3_1 = some r) ∧ Aside0 (kq ≤ k) ∧ Drawn0 w w')
  case atStart => exact ⟨(0), ez_, H', ⟨Nat.le_refl _⟩, dz_⟩
  case round =>
   clear H'
   try clear c2
   try clear c2b0
   try clear c2b1
   try clear p2
   obtain ⟨x3_1, rfl, HA, HK1, ⟨m1, rfl⟩⟩ := hrel
   cases gk with
   | zero => exact absurd HA.out (by simp [r6_Check.l0])
   | succ k1 =>
    have H := HA.out
    clear HA
    simp only [r6_Check.l0] at H
    by_cases c3 : x3_1 < (l0.length : Int)
    ·
     rw [if_pos c3] at H
     have c3b0 : decide (x3_1 < (l0.length : Int)) = true := decide_eq_true c3
     clear c3
     by_cases c4 : 0 ≤ x3_1
     ·
      rw [if_pos c4] at H
      have c4b0 : decide (0 ≤ x3_1) = true := decide_eq_true c4
      clear c4
      replace H := Option.bind_eq_some_iff.mp H
      obtain ⟨t318, A50, H⟩ := H
      try dsimp only at H
      have A5 := Aside0.mk A50
      clear A50
      by_cases c6 : t318 = true
      ·
       subst c6
       have H1 := H
       rw [if_pos rfl] at H1
       clear H
       have H := H1
       clear H1
       have HC7 := Aside0.mk H
       clear H
       have p317 : 0 ≤ (x3_1 : Int) := of_decide_eq_true az_
       have q317 : x3_1 < (l0.length : Int) := of_decide_eq_true az_
       obtain ⟨ad317, e317, hx317_0, hx317_1, hx317_2⟩ := at_T86 HR0.out x3_1 p317 q317
       cases e317
       replace p317 := eq_true p317
       replace q317 := eq_true q317
       go_upto_region 8 with (first | (go_at_call 54; (with_reducible refine (r5_Name.calls k1 ((rd_T86 l0 x3_1).f0) true _ A5.out).mono ?_); rintro e w' ⟨rfl, ⟨nd, rfl⟩⟩; (try exact wz_)))
       repeat (go_quiet (first | (go_at_call 54; (with_reducible refine (r5_Name.calls k1 ((rd_T86 l0 x3_1).f0) true _ A5.out).mono ?_); rintro e w' ⟨rfl, ⟨nd, rfl⟩⟩; (try exact wz_))); go_upto_region 8 with (first | (go_at_call 54; (with_reducible refine (r5_Name.calls k1 ((rd_T86 l0 x3_1).f0) true _ A5.out).mono ?_); rintro e w' ⟨rfl, ⟨nd, rfl⟩⟩; (try exact wz_))))
       (try simp only [Act.put, List.setIfInBounds_toArray, List.set_cons_zero, List.set_cons_succ])
       go_cut [33] (fun v33 wc => ∃ (kq : Nat) (x33_6 : Bool), v33 = .bool x33_6 ∧ Aside0 (r6_Check.j1 kq l0 x3_1 x33_6 = some r) ∧ Aside0 (kq ≤ k1) ∧ Drawn0 w wc)
       case first =>
        have H := HC7.out
        clear HC7
        by_cases c8 : ((rd_T86 l0 x3_1).f1) < 1
        ·
         rw [if_pos c8] at H
         have c8b0 : decide (((rd_T86 l0 x3_1).f1) < 1) = true := decide_eq_true c8
         clear c8
         (first | rw [c8b0] | (simp only [i64_w, i32_w]; rw [c8b0]) | skip)
         have H' := Aside0.mk H
         clear H
         have p319 : 0 ≤ (x3_1 : Int) := of_decide_eq_true az_
         have q319 : x3_1 < (l0.length : Int) := of_decide_eq_true az_
         obtain ⟨ad319, e319, hx319_0, hx319_1, hx319_2⟩ := at_T86 HR0.out x3_1 p319 q319
         obtain rfl : ad317 = ad319 := (by injection e319)
         replace p319 := eq_true p319
         replace q319 := eq_true q319
         go_wp2
         repeat (go_quiet (fail); try go_wp2)
         go_meet
         case rel => exact ⟨_, (true), ez_, H', ⟨by have := HK1.out; first | omega | exact Nat.le_refl _⟩, dz_⟩
        ·
         rw [if_neg c8] at H
         have c8b0 : decide (((rd_T86 l0 x3_1).f1) < 1) = false := decide_eq_false c8
         clear c8
         (first | rw [c8b0] | (simp only [i64_w, i32_w]; rw [c8b0]) | skip)
         have H' := Aside0.mk H
         clear H
         have p319 : 0 ≤ (x3_1 : Int) := of_decide_eq_true az_
         have q319 : x3_1 < (l0.length : Int) := of_decide_eq_true az_
         obtain ⟨ad319, e319, hx319_0, hx319_1, hx319_2⟩ := at_T86 HR0.out x3_1 p319 q319
         obtain rfl : ad317 = ad319 := (by injection e319)
         replace p319 := eq_true p319
         replace q319 := eq_true q319
         have p320 : 0 ≤ (x3_1 : Int) := of_decide_eq_true az_
         have q320 : x3_1 < (l0.length : Int) := of_decide_eq_true az_
         obtain ⟨ad320, e320, hx320_0, hx320_1, hx320_2⟩ := at_T86 HR0.out x3_1 p320 q320
         obtain rfl : ad317 = ad320 := (by injection e320)
         replace p320 := eq_true p320
         replace q320 := eq_true q320
         go_wp2
         repeat (go_quiet (fail); try go_wp2)
         go_meet
         case rel => exact ⟨_, (decide (((rd_T86 l0 x3_1).f1) > 3)), ez_, H', ⟨by have := HK1.out; first | omega | exact Nat.le_refl _⟩, dz_⟩
       case rest =>
        clear HC7
        try clear c2
        try clear c2b0
        try clear c2b1
        try clear p2
        try clear c3
        try clear c3b0
        try clear p3
        try clear q3
        try clear hx3
        try clear c4
        try clear c4b0
        try clear c6
        try clear c8
        try clear c8b0
        try clear hx317_0
        try clear hx317_1
        try clear hx317_2
        try clear hx319_0
        try clear hx319_1
        try clear hx319_2
        try clear hx320_0
        try clear hx320_1
        try clear hx320_2
        try clear p2
        try clear p317
        try clear p319
        try clear p320
        try clear q317
        try clear q319
        try clear q320
        obtain ⟨kq, x33_6, rfl, HA, HJ6, ⟨mc6, rfl⟩⟩ := hcut
        cases kq with
        | zero => exact absurd HA.out (by simp [r6_Check.j1])
        | succ kj6 =>
         have H := HA.out
         clear HA
         simp only [r6_Check.j1] at H
         by_cases c9 : x33_6 = true
         · subst c9
           have H1 := H
           rw [if_pos rfl] at H1
           clear H
           have H := H1
           clear H1
           obtain rfl := Option.some.inj H
           go_wp2
           repeat (go_quiet (fail); try go_wp2)
           go_ret
           exact ⟨ez_, dz_⟩
         ·
          replace c9 := Bool.eq_false_iff.mpr c9
          subst c9
          have H1 := H
          rw [if_neg (show ¬ (false = true) by decide)] at H1
          clear H
          have H := H1
          clear H1
          by_cases c10 : 0 ≤ x3_1
          ·
           rw [if_pos c10] at H
           have c10b0 : decide (0 ≤ x3_1) = true := decide_eq_true c10
           clear c10
           by_cases c11 : x3_1 < (l0.length : Int)
           ·
            rw [if_pos c11] at H
            have c11b0 : decide (x3_1 < (l0.length : Int)) = true := decide_eq_true c11
            clear c11
            by_cases c12 : (((rd_T86 l0 x3_1).f2).size : Int) = 32
            ·
             rw [if_pos c12] at H
             have c12b0 : ((((rd_T86 l0 x3_1).f2).size : Int) == 32) = true := beq_iff_eq.mpr c12
             have c12b1 : ((((rd_T86 l0 x3_1).f2).size : Int) != 32) = false := bne_eq_false_iff_eq.mpr c12
             clear c12
             by_cases c13 : x3_1 > 0
             ·
              rw [if_pos c13] at H
              have c13b0 : decide (0 < x3_1) = true := decide_eq_true c13
              clear c13
              obtain ⟨ji14, hji14⟩ : ∃ j_ : Int, (wrap64 (x3_1 - 1)) = j_ := ⟨_, rfl⟩
              replace H : (if 0 ≤ (ji14) then (if (ji14) < (l0.length : Int) then (if (Op.bytesLess (((rd_T86 l0 x3_1).f0).toList) (((rd_T86 l0 (ji14)).f0).toList) || (((rd_T86 l0 x3_1).f0).toList) == (((rd_T86 l0 (ji14)).f0).toList)) = true then (some 61) else (r6_Check.l0 kj6 l0 (wrap64 (x3_1 + 1)))) else (none)) else (none)) = some r := by first | (rw [hji14] at H; exact H) | (simp only [hji14] at H ⊢; exact H)
              have hji14w : (IntKind.i64.wrap (x3_1 - 1)) = ji14 := (i64_w _).trans hji14
              by_cases c15 : 0 ≤ (ji14)
              ·
               rw [if_pos c15] at H
               have c15b0 : decide (0 ≤ (ji14)) = true := decide_eq_true c15
               clear c15
               by_cases c16 : (ji14) < (l0.length : Int)
               ·
                rw [if_pos c16] at H
                have c16b0 : decide ((ji14) < (l0.length : Int)) = true := decide_eq_true c16
                clear c16
                by_cases c17 : (Op.bytesLess (((rd_T86 l0 x3_1).f0).toList) (((rd_T86 l0 (ji14)).f0).toList) || (((rd_T86 l0 x3_1).f0).toList) == (((rd_T86 l0 (ji14)).f0).toList)) = true
                ·
                 rw [if_pos c17] at H
                 have c17b0 : (Op.bytesLess (((rd_T86 l0 x3_1).f0).toList) (((rd_T86 l0 (ji14)).f0).toList) || (((rd_T86 l0 x3_1).f0).toList) == (((rd_T86 l0 (ji14)).f0).toList)) = true := c17
                 (try (have c17b1 : decide (Op.bytesLess (((rd_T86 l0 x3_1).f0).toList) (((rd_T86 l0 (ji14)).f0).toList) || (((rd_T86 l0 x3_1).f0).toList) = (((rd_T86 l0 (ji14)).f0).toList)) = true := by simpa using c17))
                 (try (have c17b2 : (Op.bytesLess (((rd_T86 l0 x3_1).f0).toList) (((rd_T86 l0 (ji14)).f0).toList) || (((rd_T86 l0 x3_1).f0).toList) == (((rd_T86 l0 (ji14)).f0).toList)) = true := by simpa using c17))
                 clear c17
                 obtain rfl := Option.some.inj H
                 have p321 : 0 ≤ (x3_1 : Int) := of_decide_eq_true az_
                 have q321 : x3_1 < (l0.length : Int) := of_decide_eq_true az_
                 obtain ⟨ad321, e321, hx321_0, hx321_1, hx321_2⟩ := at_T86 HR0.out x3_1 p321 q321
                 obtain rfl : ad317 = ad321 := (by injection e321)
                 replace p321 := eq_true p321
                 replace q321 := eq_true q321
                 have p322 : 0 ≤ (x3_1 : Int) := of_decide_eq_true az_
                 have q322 : x3_1 < (l0.length : Int) := of_decide_eq_true az_
                 obtain ⟨ad322, e322, hx322_0, hx322_1, hx322_2⟩ := at_T86 HR0.out x3_1 p322 q322
                 obtain rfl : ad317 = ad322 := (by injection e322)
                 replace p322 := eq_true p322
                 replace q322 := eq_true q322
                 have p323 : 0 ≤ ((ji14) : Int) := of_decide_eq_true az_
                 have q323 : (ji14) < (l0.length : Int) := of_decide_eq_true az_
                 obtain ⟨ad323, e323, hx323_0, hx323_1, hx323_2⟩ := at_T86 HR0.out (ji14) p323 q323
                 obtain rfl : ad317 = ad323 := (by injection e323)
                 replace p323 := eq_true p323
                 replace q323 := eq_true q323
                 go_wp2
                 repeat (go_quiet (fail); try go_wp2)
                 go_ret
                 exact ⟨by first | rfl | (simp; done) | (simp only [← hji14] <;> (first | rfl | simp)) | (simp [*]; done), dz_⟩
                ·
                 rw [if_neg c17] at H
                 have c17b0 : (Op.bytesLess (((rd_T86 l0 x3_1).f0).toList) (((rd_T86 l0 (ji14)).f0).toList) || (((rd_T86 l0 x3_1).f0).toList) == (((rd_T86 l0 (ji14)).f0).toList)) = false := by simpa using c17
                 (try (have c17b1 : decide (Op.bytesLess (((rd_T86 l0 x3_1).f0).toList) (((rd_T86 l0 (ji14)).f0).toList) || (((rd_T86 l0 x3_1).f0).toList) = (((rd_T86 l0 (ji14)).f0).toList)) = false := by simpa using c17))
                 (try (have c17b2 : (Op.bytesLess (((rd_T86 l0 x3_1).f0).toList) (((rd_T86 l0 (ji14)).f0).toList) || (((rd_T86 l0 x3_1).f0).toList) == (((rd_T86 l0 (ji14)).f0).toList)) = false := by simpa using c17))
                 (try (have c17b3 : ¬ (Op.bytesLess (((rd_T86 l0 x3_1).f0).toList) (((rd_T86 l0 (ji14)).f0).toList) || (((rd_T86 l0 x3_1).f0).toList) = (((rd_T86 l0 (ji14)).f0).toList)) := by simpa using c17))
                 clear c17
                 have H' := Aside0.mk H
                 clear H
                 have p321 : 0 ≤ (x3_1 : Int) := of_decide_eq_true az_
                 have q321 : x3_1 < (l0.length : Int) := of_decide_eq_true az_
                 obtain ⟨ad321, e321, hx321_0, hx321_1, hx321_2⟩ := at_T86 HR0.out x3_1 p321 q321
                 obtain rfl : ad317 = ad321 := (by injection e321)
                 replace p321 := eq_true p321
                 replace q321 := eq_true q321
                 have p322 : 0 ≤ (x3_1 : Int) := of_decide_eq_true az_
                 have q322 : x3_1 < (l0.length : Int) := of_decide_eq_true az_
                 obtain ⟨ad322, e322, hx322_0, hx322_1, hx322_2⟩ := at_T86 HR0.out x3_1 p322 q322
                 obtain rfl : ad317 = ad322 := (by injection e322)
                 replace p322 := eq_true p322
                 replace q322 := eq_true q322
                 have p323 : 0 ≤ ((ji14) : Int) := of_decide_eq_true az_
                 have q323 : (ji14) < (l0.length : Int) := of_decide_eq_true az_
                 obtain ⟨ad323, e323, hx323_0, hx323_1, hx323_2⟩ := at_T86 HR0.out (ji14) p323 q323
                 obtain rfl : ad317 = ad323 := (by injection e323)
                 replace p323 := eq_true p323
                 replace q323 := eq_true q323
                 go_wp2
                 repeat (go_quiet (fail); try go_wp2)
                 go_roundg kj6
                 case measure => have := HK1.out; have := HJ6.out; omega
                 case rel => exact ⟨(wrap64 (x3_1 + 1)), ez_, H', ⟨by have := HK1.out; have := HJ6.out; omega⟩, dz_⟩
               · rw [if_neg c16] at H
                 exact absurd H (by simp)
              · rw [if_neg c15] at H
                exact absurd H (by simp)
             ·
              rw [if_neg c13] at H
              have c13b0 : decide (0 < x3_1) = false := decide_eq_false c13
              clear c13
              have H' := Aside0.mk H
              clear H
              have p321 : 0 ≤ (x3_1 : Int) := of_decide_eq_true az_
              have q321 : x3_1 < (l0.length : Int) := of_decide_eq_true az_
              obtain ⟨ad321, e321, hx321_0, hx321_1, hx321_2⟩ := at_T86 HR0.out x3_1 p321 q321
              obtain rfl : ad317 = ad321 := (by injection e321)
              replace p321 := eq_true p321
              replace q321 := eq_true q321
              go_wp2
              repeat (go_quiet (fail); try go_wp2)
              go_roundg kj6
              case measure => have := HK1.out; have := HJ6.out; omega
              case rel => exact ⟨(wrap64 (x3_1 + 1)), ez_, H', ⟨by have := HK1.out; have := HJ6.out; omega⟩, dz_⟩
            ·
             rw [if_neg c12] at H
             have c12b0 : ((((rd_T86 l0 x3_1).f2).size : Int) == 32) = false := beq_eq_false_iff_ne.mpr c12
             have c12b1 : ((((rd_T86 l0 x3_1).f2).size : Int) != 32) = true := bne_iff_ne.mpr c12
             obtain rfl := Option.some.inj H
             have p321 : 0 ≤ (x3_1 : Int) := of_decide_eq_true az_
             have q321 : x3_1 < (l0.length : Int) := of_decide_eq_true az_
             obtain ⟨ad321, e321, hx321_0, hx321_1, hx321_2⟩ := at_T86 HR0.out x3_1 p321 q321
             obtain rfl : ad317 = ad321 := (by injection e321)
             replace p321 := eq_true p321
             replace q321 := eq_true q321
             go_wp2
             repeat (go_quiet (fail); try go_wp2)
             go_ret
             exact ⟨ez_, dz_⟩
           · rw [if_neg c11] at H
             exact absurd H (by simp)
          · rw [if_neg c10] at H
            exact absurd H (by simp)
      ·
       replace c6 := Bool.eq_false_iff.mpr c6
       subst c6
       have H1 := H
       rw [if_neg (show ¬ (false = true) by decide)] at H1
       clear H
       have H := H1
       clear H1
       obtain rfl := Option.some.inj H
       have p317 : 0 ≤ (x3_1 : Int) := of_decide_eq_true az_
       have q317 : x3_1 < (l0.length : Int) := of_decide_eq_true az_
       obtain ⟨ad317, e317, hx317_0, hx317_1, hx317_2⟩ := at_T86 HR0.out x3_1 p317 q317
       cases e317
       replace p317 := eq_true p317
       replace q317 := eq_true q317
       go_wp2_with (first | (go_at_call 54; (with_reducible refine (r5_Name.calls k1 ((rd_T86 l0 x3_1).f0) false _ A5.out).mono ?_); rintro e w' ⟨rfl, ⟨nd, rfl⟩⟩; (try exact wz_)))
       repeat (go_quiet (first | (go_at_call 54; (with_reducible refine (r5_Name.calls k1 ((rd_T86 l0 x3_1).f0) false _ A5.out).mono ?_); rintro e w' ⟨rfl, ⟨nd, rfl⟩⟩; (try exact wz_))); try go_wp2_with (first | (go_at_call 54; (with_reducible refine (r5_Name.calls k1 ((rd_T86 l0 x3_1).f0) false _ A5.out).mono ?_); rintro e w' ⟨rfl, ⟨nd, rfl⟩⟩; (try exact wz_))))
       go_ret
       exact ⟨ez_, dz_⟩
     · rw [if_neg c4] at H
       exact absurd H (by simp)
    · rw [if_neg c3] at H
      have c3b0 : decide (x3_1 < (l0.length : Int)) = false := decide_eq_false c3
      clear c3
      obtain rfl := Option.some.inj H
      go_wp2
      repeat (go_quiet (fail); try go_wp2)
      go_ret
      exact ⟨ez_, dz_⟩

end Go.Proofs.YtnapcfpecpgdbaaDoor.M
