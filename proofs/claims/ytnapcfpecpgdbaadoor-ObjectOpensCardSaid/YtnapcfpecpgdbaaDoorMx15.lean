/- The program's functions as plain functions, and that each call comes to what these tell; written by a program of this session, some contracts by hand. Conditions: none. -/
import Derived.Test.YtnapcfpecpgdbaaDoorMx0
namespace Go.Proofs.YtnapcfpecpgdbaaDoor.M
open Go.RowKit Go.Proofs.YtnapcfpecpgdbaaDoorW.PrintWords Go.Proofs.YtnapcfpecpgdbaaDoorW.PrintLast Go.Proofs.YtnapcfpecpgdbaaDoorW.PrintMore
attribute [local go_sem] max2_int min2_int max_two min_two max_three min_three max_four min_four   -- for this text's walks alone
set_option linter.unusedVariables false
set_option linter.unusedSimpArgs false

/-! ### r5_first: function 76 -/
mutual
def r5_first.j2 : Nat → ByteArray → Int → Int → Int → Option (Int × Int)
 | 0, _, _, _, _ => none
 | k + 1, x0, x5, x6, x7 => if (x0.size : Int) ≤ x5 then (some ((-1), 1)) else (r5_first.l0 k x0 x5 x6 x7 1)
def r5_first.l0 : Nat → ByteArray → Int → Int → Int → Int → Option (Int × Int)
 | 0, _, _, _, _, _ => none
 | k + 1, x0, x5, x6, x7, x8 => if x8 ≤ x5 then (if 0 ≤ x8 then (if x8 < (x0.size : Int) then (if (bt x0 x8) < 128 then (some ((-1), 1)) else (if (bt x0 x8) > 191 then (some ((-1), 1)) else (r5_first.l0 k x0 x5 x6 (wrap64 ((wrap64 ((wrap64 (x7 * 64)) + (wrap64 (bt x0 x8)))) - 128)) (wrap64 (x8 + 1))))) else (none)) else (none)) else (if x7 < x6 then (some ((-1), 1)) else (if x7 ≥ 55296 then (if x7 < 57344 then (some ((-1), 1)) else (if x7 > 1114111 then (some ((-1), 1)) else (some (x7, wrap64 (x5 + 1))))) else (if x7 > 1114111 then (some ((-1), 1)) else (some (x7, wrap64 (x5 + 1))))))
def r5_first.j0 : Nat → ByteArray → Int → Bool → Option (Int × Int)
 | 0, _, _, _ => none
 | k + 1, x0, x4, x16 => if x16 = true then (r5_first.j2 k x0 1 128 (wrap64 (x4 - 192))) else (if x4 ≥ 224 then (r5_first.j1 k x0 x4 (decide (x4 < 240))) else (r5_first.j1 k x0 x4 false))
def r5_first.j1 : Nat → ByteArray → Int → Bool → Option (Int × Int)
 | 0, _, _, _ => none
 | k + 1, x0, x4, x25 => if x25 = true then (r5_first.j2 k x0 2 2048 (wrap64 (x4 - 224))) else (if x4 ≥ 240 then (if x4 < 245 then (r5_first.j2 k x0 3 65536 (wrap64 (x4 - 240))) else (some ((-1), 1))) else (some ((-1), 1)))
end
def r5_first.f (k : Nat) (a0 : ByteArray) : Option (Int × Int) := if 0 < (a0.size : Int) then (if (wrap64 (bt a0 0)) < 128 then (some (wrap64 (bt a0 0), 1)) else (if (wrap64 (bt a0 0)) ≥ 194 then (r5_first.j0 k a0 (wrap64 (bt a0 0)) (decide ((wrap64 (bt a0 0)) < 224))) else (r5_first.j0 k a0 (wrap64 (bt a0 0)) false))) else (none)
theorem r5_first.mono_l : ∀ k, (∀ y0 y1 y2 y3, LeO (r5_first.j2 k y0 y1 y2 y3) (r5_first.j2 (k + 1) y0 y1 y2 y3)) ∧ (∀ y0 y1 y2 y3 y4, LeO (r5_first.l0 k y0 y1 y2 y3 y4) (r5_first.l0 (k + 1) y0 y1 y2 y3 y4)) ∧ (∀ y0 y1 y2, LeO (r5_first.j0 k y0 y1 y2) (r5_first.j0 (k + 1) y0 y1 y2)) ∧ (∀ y0 y1 y2, LeO (r5_first.j1 k y0 y1 y2) (r5_first.j1 (k + 1) y0 y1 y2))
 | 0 => ⟨fun _ _ _ _ r h => by simp [r5_first.j2] at h, fun _ _ _ _ _ r h => by simp [r5_first.l0] at h, fun _ _ _ r h => by simp [r5_first.j0] at h, fun _ _ _ r h => by simp [r5_first.j1] at h⟩
 | k + 1 => by
  obtain ⟨ih0, ih1, ih2, ih3⟩ := r5_first.mono_l k
  refine ⟨?_, ?_, ?_, ?_⟩
  all_goals (intros; first | unfold r5_first.j2 | unfold r5_first.l0 | unfold r5_first.j0 | unfold r5_first.j1)
  all_goals repeat' with_reducible first | exact ih0 _ _ _ _ | exact ih1 _ _ _ _ _ | exact ih2 _ _ _ | exact ih3 _ _ _ | exact LeO.refl _ | exact LeO.none _ | refine LeO.ite ?_ ?_ | refine LeO.bind ?_ (fun _ => ?_)
theorem r5_first.mono : ∀ a0 k, LeO (r5_first.f k a0) (r5_first.f (k + 1) a0) := by
 intro a0 k
 obtain ⟨ih0, ih1, ih2, ih3⟩ := r5_first.mono_l k
 unfold r5_first.f
 repeat' with_reducible first | exact ih0 _ _ _ _ | exact ih1 _ _ _ _ _ | exact ih2 _ _ _ | exact ih3 _ _ _ | exact LeO.refl _ | exact LeO.none _ | refine LeO.ite ?_ ?_ | refine LeO.bind ?_ (fun _ => ?_)
set_option maxHeartbeats 8000000 in
set_option maxRecDepth 100000 in
theorem r5_first.calls (k : Nat) (a0 : ByteArray) (r1 : Int) (r2 : Int) (w : World) (h : r5_first.f k a0 = some (r1, r2)) :
 Calls Tryd.prog 76 #[.string a0] w fun e w' => e = .returned (.tuple #[.int .i64 r1, .int .i64 r2]) ∧ Drawn0 w w' := by
 have H : (if 0 < (a0.size : Int) then (if (wrap64 (bt a0 0)) < 128 then (some (wrap64 (bt a0 0), 1)) else (if (wrap64 (bt a0 0)) ≥ 194 then (r5_first.j0 k a0 (wrap64 (bt a0 0)) (decide ((wrap64 (bt a0 0)) < 224))) else (r5_first.j0 k a0 (wrap64 (bt a0 0)) false))) else (none)) = some (r1, r2) := h
 clear h
 by_cases c2 : 0 < (a0.size : Int)
 ·
  rw [if_pos c2] at H
  have c2b0 : decide (0 < (a0.size : Int)) = true := decide_eq_true c2
  have c2b1 : decide (0 < a0.size) = true := decide_eq_true (by omega)
  clear c2
  have HC4 := Aside0.mk H
  clear H
  have p3 : 0 ≤ (0 : Int) := (by omega)
  have q3 : 0 < a0.size := (by have : (0 : Int) < (a0.size : Int) := of_decide_eq_true az_; omega)
  have hx3 : ∀ h : 0 < a0.size, ((a0[0]'h).toNat : Int) = bt a0 0 := bt_at a0 0
  clear p3
  have qi3 : (0 < (a0.size : Int)) = True := eq_true (of_decide_eq_true az_)
  replace q3 := eq_true q3
  go_enter Tryd.func76, Tryd.ntmps76
  go_upto_block 0 with (fail)
  go_cut [5, 6, 7] (fun v5 v6 v7 wc => ∃ (kq : Nat) (x5_3 : Int) (x6_3 : Int) (x7_3 : Int), v5 = .int .i64 x5_3 ∧ v6 = .int .i64 x6_3 ∧ v7 = .int .i64 x7_3 ∧ Aside0 (r5_first.j2 kq a0 x5_3 x6_3 x7_3 = some (r1, r2)) ∧ Aside0 (kq ≤ k) ∧ Drawn0 w wc)
  case first =>
   have H := HC4.out
   clear HC4
   by_cases c5 : (wrap64 (bt a0 0)) < 128
   · rw [if_pos c5] at H
     have c5b0 : decide ((wrap64 (bt a0 0)) < 128) = true := decide_eq_true c5
     clear c5
     (first | rw [c5b0] | (simp only [i64_w, i32_w]; rw [c5b0]) | skip)
     simp only [Option.some.injEq, Prod.mk.injEq] at H
     obtain ⟨rfl, rfl⟩ := H
     go_wp2
     go_ret2
     exact ⟨ez_, dz_⟩
   ·
    rw [if_neg c5] at H
    have c5b0 : decide ((wrap64 (bt a0 0)) < 128) = false := decide_eq_false c5
    clear c5
    (first | rw [c5b0] | (simp only [i64_w, i32_w]; rw [c5b0]) | skip)
    have HC6 := Aside0.mk H
    clear H
    go_upto_region 6 with (fail)
    go_cut [16] (fun v16 wc => ∃ (kq : Nat) (x16_5 : Bool), v16 = .bool x16_5 ∧ Aside0 (r5_first.j0 kq a0 (wrap64 (bt a0 0)) x16_5 = some (r1, r2)) ∧ Aside0 (kq ≤ k) ∧ Drawn0 w wc)
    case first =>
     have H := HC6.out
     clear HC6
     by_cases c7 : (wrap64 (bt a0 0)) ≥ 194
     · rw [if_pos c7] at H
       have c7b0 : decide (194 ≤ (wrap64 (bt a0 0))) = true := decide_eq_true c7
       clear c7
       (first | rw [c7b0] | (simp only [i64_w, i32_w]; rw [c7b0]) | skip)
       have H' := Aside0.mk H
       clear H
       go_wp2
       go_meet
       case rel => exact ⟨_, (decide ((wrap64 (bt a0 0)) < 224)), ez_, H', ⟨by first | omega | exact Nat.le_refl _⟩, dz_⟩
     · rw [if_neg c7] at H
       have c7b0 : decide (194 ≤ (wrap64 (bt a0 0))) = false := decide_eq_false c7
       clear c7
       (first | rw [c7b0] | (simp only [i64_w, i32_w]; rw [c7b0]) | skip)
       have H' := Aside0.mk H
       clear H
       go_wp2
       go_meet
       case rel => exact ⟨_, (false), ez_, H', ⟨by first | omega | exact Nat.le_refl _⟩, dz_⟩
    case rest =>
     clear HC6
     try clear c2
     try clear c2b0
     try clear c2b1
     try clear p2
     try clear p3
     try clear q3
     try clear hx3
     try clear qi3
     try clear c5
     try clear c5b0
     try clear p6
     try clear c7
     try clear c7b0
     try clear p3
     try clear q3
     obtain ⟨kq, x16_5, rfl, HA, HJ5, ⟨mc5, rfl⟩⟩ := hcut
     cases kq with
     | zero => exact absurd HA.out (by simp [r5_first.j0])
     | succ kj5 =>
      have H := HA.out
      clear HA
      simp only [r5_first.j0] at H
      by_cases c8 : x16_5 = true
      · subst c8
        have H1 := H
        rw [if_pos rfl] at H1
        clear H
        have H := H1
        clear H1
        have H' := Aside0.mk H
        clear H
        go_wp2
        go_meet
        case rel => exact ⟨_, (1), (128), (wrap64 ((wrap64 (bt a0 0)) - 192)), ez_, ez_, ez_, H', ⟨by have := HJ5.out; first | omega | exact Nat.le_refl _⟩, dz_⟩
      ·
       replace c8 := Bool.eq_false_iff.mpr c8
       subst c8
       have H1 := H
       rw [if_neg (show ¬ (false = true) by decide)] at H1
       clear H
       have H := H1
       clear H1
       have HC9 := Aside0.mk H
       clear H
       go_upto_region 8 with (fail)
       go_cut [25] (fun v25 wc => ∃ (kq : Nat) (x25_8 : Bool), v25 = .bool x25_8 ∧ Aside0 (r5_first.j1 kq a0 (wrap64 (bt a0 0)) x25_8 = some (r1, r2)) ∧ Aside0 (kq ≤ kj5) ∧ Drawn0 w wc)
       case first =>
        have H := HC9.out
        clear HC9
        by_cases c10 : (wrap64 (bt a0 0)) ≥ 224
        · rw [if_pos c10] at H
          have c10b0 : decide (224 ≤ (wrap64 (bt a0 0))) = true := decide_eq_true c10
          clear c10
          (first | rw [c10b0] | (simp only [i64_w, i32_w]; rw [c10b0]) | skip)
          have H' := Aside0.mk H
          clear H
          go_wp2
          go_meet
          case rel => exact ⟨_, (decide ((wrap64 (bt a0 0)) < 240)), ez_, H', ⟨by have := HJ5.out; first | omega | exact Nat.le_refl _⟩, dz_⟩
        · rw [if_neg c10] at H
          have c10b0 : decide (224 ≤ (wrap64 (bt a0 0))) = false := decide_eq_false c10
          clear c10
          (first | rw [c10b0] | (simp only [i64_w, i32_w]; rw [c10b0]) | skip)
          have H' := Aside0.mk H
          clear H
          go_wp2
          go_meet
          case rel => exact ⟨_, (false), ez_, H', ⟨by have := HJ5.out; first | omega | exact Nat.le_refl _⟩, dz_⟩
       case rest =>
        clear HC9
        try clear c1
        try clear c2
        try clear c2b0
        try clear c2b1
        try clear p2
        try clear p3
        try clear q3
        try clear hx3
        try clear qi3
        try clear c5
        try clear c5b0
        try clear p6
        try clear c7
        try clear c7b0
        try clear c8
        try clear c10
        try clear c10b0
        try clear p2
        try clear p3
        try clear p6
        try clear q3
        obtain ⟨kq, x25_8, rfl, HA, HJ8, ⟨mc8, rfl⟩⟩ := hcut
        cases kq with
        | zero => exact absurd HA.out (by simp [r5_first.j1])
        | succ kj8 =>
         have H := HA.out
         clear HA
         simp only [r5_first.j1] at H
         by_cases c11 : x25_8 = true
         · subst c11
           have H1 := H
           rw [if_pos rfl] at H1
           clear H
           have H := H1
           clear H1
           have H' := Aside0.mk H
           clear H
           go_wp2
           go_meet
           case rel => exact ⟨_, (2), (2048), (wrap64 ((wrap64 (bt a0 0)) - 224)), ez_, ez_, ez_, H', ⟨by have := HJ5.out; have := HJ8.out; first | omega | exact Nat.le_refl _⟩, dz_⟩
         ·
          replace c11 := Bool.eq_false_iff.mpr c11
          subst c11
          have H1 := H
          rw [if_neg (show ¬ (false = true) by decide)] at H1
          clear H
          have H := H1
          clear H1
          by_cases c12 : (wrap64 (bt a0 0)) ≥ 240
          ·
           rw [if_pos c12] at H
           have c12b0 : decide (240 ≤ (wrap64 (bt a0 0))) = true := decide_eq_true c12
           clear c12
           by_cases c13 : (wrap64 (bt a0 0)) < 245
           · rw [if_pos c13] at H
             have c13b0 : decide ((wrap64 (bt a0 0)) < 245) = true := decide_eq_true c13
             clear c13
             have H' := Aside0.mk H
             clear H
             go_wp2
             go_meet
             case rel => exact ⟨_, (3), (65536), (wrap64 ((wrap64 (bt a0 0)) - 240)), ez_, ez_, ez_, H', ⟨by have := HJ5.out; have := HJ8.out; first | omega | exact Nat.le_refl _⟩, dz_⟩
           · rw [if_neg c13] at H
             have c13b0 : decide ((wrap64 (bt a0 0)) < 245) = false := decide_eq_false c13
             clear c13
             simp only [Option.some.injEq, Prod.mk.injEq] at H
             obtain ⟨rfl, rfl⟩ := H
             go_wp2
             go_ret2
             exact ⟨ez_, dz_⟩
          · rw [if_neg c12] at H
            have c12b0 : decide (240 ≤ (wrap64 (bt a0 0))) = false := decide_eq_false c12
            clear c12
            simp only [Option.some.injEq, Prod.mk.injEq] at H
            obtain ⟨rfl, rfl⟩ := H
            go_wp2
            go_ret2
            exact ⟨ez_, dz_⟩
  case rest =>
   clear HC4
   try clear c1
   try clear c2
   try clear c2b0
   try clear c2b1
   try clear p2
   try clear p3
   try clear q3
   try clear hx3
   try clear qi3
   try clear c5
   try clear c5b0
   try clear p6
   try clear c7
   try clear c7b0
   try clear c8
   try clear c10
   try clear c10b0
   try clear c11
   try clear c12
   try clear c12b0
   try clear c13
   try clear c13b0
   try clear p2
   try clear p3
   try clear p6
   try clear q3
   obtain ⟨kq, x5_3, x6_3, x7_3, rfl, rfl, rfl, HA, HJ3, ⟨mc3, rfl⟩⟩ := hcut
   cases kq with
   | zero => exact absurd HA.out (by simp [r5_first.j2])
   | succ kj3 =>
    have H := HA.out
    clear HA
    simp only [r5_first.j2] at H
    by_cases c14 : (a0.size : Int) ≤ x5_3
    · rw [if_pos c14] at H
      have c14b0 : decide ((a0.size : Int) ≤ x5_3) = true := decide_eq_true c14
      clear c14
      simp only [Option.some.injEq, Prod.mk.injEq] at H
      obtain ⟨rfl, rfl⟩ := H
      go_wp2
      go_ret2
      exact ⟨ez_, dz_⟩
    ·
     rw [if_neg c14] at H
     have c14b0 : decide ((a0.size : Int) ≤ x5_3) = false := decide_eq_false c14
     clear c14
     have H' := Aside0.mk H
     clear H
     go_wp2
     go_loopg [7, 8] kj3 (fun kq v7 v8 w' => ∃ (x7_2 : Int) (x8_2 : Int), v7 = .int .i64 x7_2 ∧ v8 = .int .i64 x8_2 ∧ Aside0 (r5_first.l0 kq a0 x5_3 x6_3 x7_2 x8_2 = some (r1, r2)) ∧ Aside0 (kq ≤ kj3) ∧ Drawn0 w w')
     case atStart => exact ⟨(x7_3), (1), ez_, ez_, H', ⟨Nat.le_refl _⟩, dz_⟩
     case round =>
      clear H'
      try clear c1
      try clear c2
      try clear c2b0
      try clear c2b1
      try clear p2
      try clear c3
      try clear p3
      try clear q3
      try clear hx3
      try clear qi3
      try clear c5
      try clear c5b0
      try clear p6
      try clear c7
      try clear c7b0
      try clear c8
      try clear c10
      try clear c10b0
      try clear c11
      try clear c12
      try clear c12b0
      try clear c13
      try clear c13b0
      try clear c14
      try clear c14b0
      try clear p2
      try clear p3
      try clear p6
      try clear q3
      obtain ⟨x7_2, x8_2, rfl, rfl, HA, HK2, ⟨m2, rfl⟩⟩ := hrel
      cases gk with
      | zero => exact absurd HA.out (by simp [r5_first.l0])
      | succ k2 =>
       have H := HA.out
       clear HA
       simp only [r5_first.l0] at H
       by_cases c15 : x8_2 ≤ x5_3
       ·
        rw [if_pos c15] at H
        have c15b0 : decide (x8_2 ≤ x5_3) = true := decide_eq_true c15
        clear c15
        by_cases c16 : 0 ≤ x8_2
        ·
         rw [if_pos c16] at H
         have c16b0 : decide (0 ≤ x8_2) = true := decide_eq_true c16
         clear c16
         by_cases c17 : x8_2 < (a0.size : Int)
         ·
          rw [if_pos c17] at H
          have c17b0 : decide (x8_2 < (a0.size : Int)) = true := decide_eq_true c17
          clear c17
          by_cases c19 : (bt a0 x8_2) < 128
          · rw [if_pos c19] at H
            have c19b0 : decide ((bt a0 x8_2) < 128) = true := decide_eq_true c19
            clear c19
            simp only [Option.some.injEq, Prod.mk.injEq] at H
            obtain ⟨rfl, rfl⟩ := H
            have p18 : 0 ≤ (x8_2 : Int) := of_decide_eq_true az_
            have q18 : x8_2 < (a0.size : Int) := of_decide_eq_true az_
            have hx18 := bt_at a0 x8_2
            replace p18 := eq_true p18
            replace q18 := eq_true q18
            go_wp2
            go_ret2
            exact ⟨ez_, dz_⟩
          ·
           rw [if_neg c19] at H
           have c19b0 : decide ((bt a0 x8_2) < 128) = false := decide_eq_false c19
           clear c19
           by_cases c21 : (bt a0 x8_2) > 191
           ·
            rw [if_pos c21] at H
            have c21b0 : decide (191 < (bt a0 x8_2)) = true := decide_eq_true c21
            clear c21
            simp only [Option.some.injEq, Prod.mk.injEq] at H
            obtain ⟨rfl, rfl⟩ := H
            have p18 : 0 ≤ (x8_2 : Int) := of_decide_eq_true az_
            have q18 : x8_2 < (a0.size : Int) := of_decide_eq_true az_
            have hx18 := bt_at a0 x8_2
            replace p18 := eq_true p18
            replace q18 := eq_true q18
            have p20 : 0 ≤ (x8_2 : Int) := of_decide_eq_true az_
            have q20 : x8_2 < (a0.size : Int) := of_decide_eq_true az_
            have hx20 := bt_at a0 x8_2
            replace p20 := eq_true p20
            replace q20 := eq_true q20
            go_wp2
            go_ret2
            exact ⟨ez_, dz_⟩
           ·
            rw [if_neg c21] at H
            have c21b0 : decide (191 < (bt a0 x8_2)) = false := decide_eq_false c21
            clear c21
            have H' := Aside0.mk H
            clear H
            have p18 : 0 ≤ (x8_2 : Int) := of_decide_eq_true az_
            have q18 : x8_2 < (a0.size : Int) := of_decide_eq_true az_
            have hx18 := bt_at a0 x8_2
            replace p18 := eq_true p18
            replace q18 := eq_true q18
            have p20 : 0 ≤ (x8_2 : Int) := of_decide_eq_true az_
            have q20 : x8_2 < (a0.size : Int) := of_decide_eq_true az_
            have hx20 := bt_at a0 x8_2
            replace p20 := eq_true p20
            replace q20 := eq_true q20
            have p22 : 0 ≤ (x8_2 : Int) := of_decide_eq_true az_
            have q22 : x8_2 < (a0.size : Int) := of_decide_eq_true az_
            have hx22 := bt_at a0 x8_2
            replace p22 := eq_true p22
            replace q22 := eq_true q22
            go_wp2
            go_roundg k2
            case measure => have := HJ3.out; have := HK2.out; omega
            case rel => exact ⟨(wrap64 ((wrap64 ((wrap64 (x7_2 * 64)) + (wrap64 (bt a0 x8_2)))) - 128)), (wrap64 (x8_2 + 1)), ez_, ez_, H', ⟨by have := HJ3.out; have := HK2.out; omega⟩, dz_⟩
         · rw [if_neg c17] at H
           exact absurd H (by simp)
        · rw [if_neg c16] at H
          exact absurd H (by simp)
       ·
        rw [if_neg c15] at H
        have c15b0 : decide (x8_2 ≤ x5_3) = false := decide_eq_false c15
        clear c15
        by_cases c23 : x7_2 < x6_3
        · rw [if_pos c23] at H
          have c23b0 : decide (x7_2 < x6_3) = true := decide_eq_true c23
          clear c23
          simp only [Option.some.injEq, Prod.mk.injEq] at H
          obtain ⟨rfl, rfl⟩ := H
          go_wp2
          go_ret2
          exact ⟨ez_, dz_⟩
        ·
         rw [if_neg c23] at H
         have c23b0 : decide (x7_2 < x6_3) = false := decide_eq_false c23
         clear c23
         by_cases c24 : x7_2 ≥ 55296
         ·
          rw [if_pos c24] at H
          have c24b0 : decide (55296 ≤ x7_2) = true := decide_eq_true c24
          clear c24
          by_cases c25 : x7_2 < 57344
          · rw [if_pos c25] at H
            have c25b0 : decide (x7_2 < 57344) = true := decide_eq_true c25
            clear c25
            simp only [Option.some.injEq, Prod.mk.injEq] at H
            obtain ⟨rfl, rfl⟩ := H
            go_wp2
            go_ret2
            exact ⟨ez_, dz_⟩
          ·
           rw [if_neg c25] at H
           have c25b0 : decide (x7_2 < 57344) = false := decide_eq_false c25
           clear c25
           by_cases c26 : x7_2 > 1114111
           · rw [if_pos c26] at H
             have c26b0 : decide (1114111 < x7_2) = true := decide_eq_true c26
             clear c26
             simp only [Option.some.injEq, Prod.mk.injEq] at H
             obtain ⟨rfl, rfl⟩ := H
             go_wp2
             go_ret2
             exact ⟨ez_, dz_⟩
           · rw [if_neg c26] at H
             have c26b0 : decide (1114111 < x7_2) = false := decide_eq_false c26
             clear c26
             simp only [Option.some.injEq, Prod.mk.injEq] at H
             obtain ⟨rfl, rfl⟩ := H
             go_wp2
             go_ret2
             exact ⟨ez_, dz_⟩
         ·
          rw [if_neg c24] at H
          have c24b0 : decide (55296 ≤ x7_2) = false := decide_eq_false c24
          clear c24
          by_cases c27 : x7_2 > 1114111
          · rw [if_pos c27] at H
            have c27b0 : decide (1114111 < x7_2) = true := decide_eq_true c27
            clear c27
            simp only [Option.some.injEq, Prod.mk.injEq] at H
            obtain ⟨rfl, rfl⟩ := H
            go_wp2
            go_ret2
            exact ⟨ez_, dz_⟩
          · rw [if_neg c27] at H
            have c27b0 : decide (1114111 < x7_2) = false := decide_eq_false c27
            clear c27
            simp only [Option.some.injEq, Prod.mk.injEq] at H
            obtain ⟨rfl, rfl⟩ := H
            go_wp2
            go_ret2
            exact ⟨ez_, dz_⟩
 · rw [if_neg c2] at H
   exact absurd H (by simp)

end Go.Proofs.YtnapcfpecpgdbaaDoor.M
