/- The program's functions as plain functions, and that each call comes to what these tell; written by a program of this session, some contracts by hand. Conditions: none. -/
import Derived.Test.YtgepbdkbleapaaaMx0
namespace Go.Proofs.Ytgepbdkbleapaaa.M
open Go.RowKit Go.Proofs.YtgepbdkbleapaaaW.PrintWords Go.Proofs.YtgepbdkbleapaaaW.PrintLast Go.Proofs.YtgepbdkbleapaaaW.PrintMore
attribute [local go_sem] max2_int min2_int max_two min_two max_three min_three max_four min_four   -- for this text's walks alone
set_option linter.unusedVariables false
set_option linter.unusedSimpArgs false

/-! ### pollardref05_Ref: function 31 -/
mutual
def pollardref05_Ref.j0 : Nat → ByteArray → Int → ByteArray → Bool → Option (Int)
 | 0, _, _, _, _ => none
 | k + 1, x0, x3, x4, x14 => if x14 = true then (if 6 ≤ (x0.size : Int) then (pollardref05_Ref.j1 k x0 1 (x0.extract 6 x0.size)) else (none)) else (pollardref05_Ref.j1 k x0 x3 x4)
def pollardref05_Ref.j1 : Nat → ByteArray → Int → ByteArray → Option (Int)
 | 0, _, _, _ => none
 | k + 1, x0, x3, x4 => if (x0.size : Int) > 5 then (if 0 ≤ 5 then (if 5 ≤ (x0.size : Int) then (pollardref05_Ref.j2 k x0 x3 x4 ((x0.extract 0 5).toList == ([116, 97, 103, 115, 47] : List UInt8))) else (none)) else (none)) else (pollardref05_Ref.j2 k x0 x3 x4 false)
def pollardref05_Ref.j2 : Nat → ByteArray → Int → ByteArray → Bool → Option (Int)
 | 0, _, _, _, _ => none
 | k + 1, x0, x3, x4, x24 => if x24 = true then (if 5 ≤ (x0.size : Int) then (pollardref05_Ref.j3 k 2 (x0.extract 5 x0.size)) else (none)) else (pollardref05_Ref.j3 k x3 x4)
def pollardref05_Ref.j3 : Nat → Int → ByteArray → Option (Int)
 | 0, _, _ => none
 | k + 1, x3, x4 => pollardref05_Ref.l0 k x3 x4 0
def pollardref05_Ref.l0 : Nat → Int → ByteArray → Int → Option (Int)
 | 0, _, _, _ => none
 | k + 1, x3, x4, x5 => if x5 < (x4.size : Int) then (if 0 ≤ x5 then (if (bt x4 x5) ≥ 97 then (if (bt x4 x5) ≤ 122 then (pollardref05_Ref.l0 k x3 x4 (wrap64 (x5 + 1))) else (if (bt x4 x5) ≥ 48 then (if (bt x4 x5) ≤ 57 then (pollardref05_Ref.l0 k x3 x4 (wrap64 (x5 + 1))) else (if (bt x4 x5) = 45 then (pollardref05_Ref.l0 k x3 x4 (wrap64 (x5 + 1))) else (if ((bt x4 x5) = 95) then (pollardref05_Ref.l0 k x3 x4 (wrap64 (x5 + 1))) else (some 0)))) else (if (bt x4 x5) = 45 then (pollardref05_Ref.l0 k x3 x4 (wrap64 (x5 + 1))) else (if ((bt x4 x5) = 95) then (pollardref05_Ref.l0 k x3 x4 (wrap64 (x5 + 1))) else (some 0))))) else (if (bt x4 x5) ≥ 48 then (if (bt x4 x5) ≤ 57 then (pollardref05_Ref.l0 k x3 x4 (wrap64 (x5 + 1))) else (if (bt x4 x5) = 45 then (pollardref05_Ref.l0 k x3 x4 (wrap64 (x5 + 1))) else (if ((bt x4 x5) = 95) then (pollardref05_Ref.l0 k x3 x4 (wrap64 (x5 + 1))) else (some 0)))) else (if (bt x4 x5) = 45 then (pollardref05_Ref.l0 k x3 x4 (wrap64 (x5 + 1))) else (if ((bt x4 x5) = 95) then (pollardref05_Ref.l0 k x3 x4 (wrap64 (x5 + 1))) else (some 0))))) else (none)) else (if (x4.size : Int) > 64 then (some 0) else (some x3))
end
def pollardref05_Ref.f (k : Nat) (a0 : ByteArray) : Option (Int) := if (a0.size : Int) > 6 then (if 0 ≤ 6 then (if 6 ≤ (a0.size : Int) then (pollardref05_Ref.j0 k a0 0 (⟨#[]⟩ : ByteArray) ((a0.extract 0 6).toList == ([104, 101, 97, 100, 115, 47] : List UInt8))) else (none)) else (none)) else (pollardref05_Ref.j0 k a0 0 (⟨#[]⟩ : ByteArray) false)
theorem pollardref05_Ref.mono_l : ∀ k, (∀ y0 y1 y2 y3, LeO (pollardref05_Ref.j0 k y0 y1 y2 y3) (pollardref05_Ref.j0 (k + 1) y0 y1 y2 y3)) ∧ (∀ y0 y1 y2, LeO (pollardref05_Ref.j1 k y0 y1 y2) (pollardref05_Ref.j1 (k + 1) y0 y1 y2)) ∧ (∀ y0 y1 y2 y3, LeO (pollardref05_Ref.j2 k y0 y1 y2 y3) (pollardref05_Ref.j2 (k + 1) y0 y1 y2 y3)) ∧ (∀ y0 y1, LeO (pollardref05_Ref.j3 k y0 y1) (pollardref05_Ref.j3 (k + 1) y0 y1)) ∧ (∀ y0 y1 y2, LeO (pollardref05_Ref.l0 k y0 y1 y2) (pollardref05_Ref.l0 (k + 1) y0 y1 y2))
 | 0 => ⟨fun _ _ _ _ r h => by simp [pollardref05_Ref.j0] at h, fun _ _ _ r h => by simp [pollardref05_Ref.j1] at h, fun _ _ _ _ r h => by simp [pollardref05_Ref.j2] at h, fun _ _ r h => by simp [pollardref05_Ref.j3] at h, fun _ _ _ r h => by simp [pollardref05_Ref.l0] at h⟩
 | k + 1 => by
  obtain ⟨ih0, ih1, ih2, ih3, ih4⟩ := pollardref05_Ref.mono_l k
  refine ⟨?_, ?_, ?_, ?_, ?_⟩
  all_goals (intros; first | unfold pollardref05_Ref.j0 | unfold pollardref05_Ref.j1 | unfold pollardref05_Ref.j2 | unfold pollardref05_Ref.j3 | unfold pollardref05_Ref.l0)
  all_goals repeat' with_reducible first | exact ih0 _ _ _ _ | exact ih1 _ _ _ | exact ih2 _ _ _ _ | exact ih3 _ _ | exact ih4 _ _ _ | exact LeO.refl _ | exact LeO.none _ | refine LeO.ite ?_ ?_ | refine LeO.bind ?_ (fun _ => ?_)
theorem pollardref05_Ref.mono : ∀ a0 k, LeO (pollardref05_Ref.f k a0) (pollardref05_Ref.f (k + 1) a0) := by
 intro a0 k
 obtain ⟨ih0, ih1, ih2, ih3, ih4⟩ := pollardref05_Ref.mono_l k
 unfold pollardref05_Ref.f
 repeat' with_reducible first | exact ih0 _ _ _ _ | exact ih1 _ _ _ | exact ih2 _ _ _ _ | exact ih3 _ _ | exact ih4 _ _ _ | exact LeO.refl _ | exact LeO.none _ | refine LeO.ite ?_ ?_ | refine LeO.bind ?_ (fun _ => ?_)
set_option maxHeartbeats 8000000 in
set_option maxRecDepth 100000 in
theorem pollardref05_Ref.calls (k : Nat) (a0 : ByteArray) (r : Int) (w : World) (h : pollardref05_Ref.f k a0 = some r) :
 Calls Try.prog 31 #[.string a0] w fun e w' => e = .returned (.int .i64 r) ∧ Drawn0 w w' := by
 have H : (if (a0.size : Int) > 6 then (if 0 ≤ 6 then (if 6 ≤ (a0.size : Int) then (pollardref05_Ref.j0 k a0 0 (⟨#[]⟩ : ByteArray) ((a0.extract 0 6).toList == ([104, 101, 97, 100, 115, 47] : List UInt8))) else (none)) else (none)) else (pollardref05_Ref.j0 k a0 0 (⟨#[]⟩ : ByteArray) false)) = some r := h
 clear h
 have HC2 := Aside0.mk H
 clear H
 go_enter Try.func31, Try.ntmps31
 go_upto_region 2 with (fail)
 repeat (go_quiet (fail); go_upto_region 2 with (fail))
 go_cut [14] (fun v14 wc => ∃ (kq : Nat) (x14_1 : Bool), v14 = .bool x14_1 ∧ Aside0 (pollardref05_Ref.j0 kq a0 0 (⟨#[]⟩ : ByteArray) x14_1 = some r) ∧ Aside0 (kq ≤ k) ∧ Drawn0 w wc)
 case first =>
  have H := HC2.out
  clear HC2
  by_cases c3 : (a0.size : Int) > 6
  ·
   rw [if_pos c3] at H
   have c3b0 : decide (6 < (a0.size : Int)) = true := decide_eq_true c3
   have c3b1 : decide (6 < a0.size) = true := decide_eq_true (by omega)
   clear c3
   (first | rw [c3b0] | (simp only [i64_w, i32_w]; rw [c3b0]) | skip)
   by_cases c4 : 0 ≤ 6
   ·
    rw [if_pos c4] at H
    have c4b0 := eq_true c4
    have c4b1 : decide (0 ≤ 6) = true := decide_eq_true c4
    clear c4
    by_cases c5 : 6 ≤ (a0.size : Int)
    · rw [if_pos c5] at H
      have c5b0 := eq_true c5
      have c5b1 : decide (6 ≤ (a0.size : Int)) = true := decide_eq_true c5
      clear c5
      have H' := Aside0.mk H
      clear H
      go_wp2
      repeat (go_quiet (fail); try go_wp2)
      go_meet
      case rel => exact ⟨_, (((a0.extract 0 6).toList == ([104, 101, 97, 100, 115, 47] : List UInt8))), ez_, H', ⟨by first | omega | exact Nat.le_refl _⟩, dz_⟩
    · rw [if_neg c5] at H
      exact absurd H (by simp)
   · rw [if_neg c4] at H
     exact absurd H (by simp)
  · rw [if_neg c3] at H
    have c3b0 : decide (6 < (a0.size : Int)) = false := decide_eq_false c3
    have c3b1 : decide (6 < a0.size) = false := decide_eq_false (by omega)
    clear c3
    (first | rw [c3b0] | (simp only [i64_w, i32_w]; rw [c3b0]) | skip)
    have H' := Aside0.mk H
    clear H
    go_wp2
    repeat (go_quiet (fail); try go_wp2)
    go_meet
    case rel => exact ⟨_, (false), ez_, H', ⟨by first | omega | exact Nat.le_refl _⟩, dz_⟩
 case rest =>
  clear HC2
  try clear p2
  try clear c3
  try clear c3b0
  try clear c3b1
  try clear c4
  try clear c4b0
  try clear c4b1
  try clear c5
  try clear c5b0
  try clear c5b1
  obtain ⟨kq, x14_1, rfl, HA, HJ1, ⟨mc1, rfl⟩⟩ := hcut
  cases kq with
  | zero => exact absurd HA.out (by simp [pollardref05_Ref.j0])
  | succ kj1 =>
   have H := HA.out
   clear HA
   simp only [pollardref05_Ref.j0] at H
   have HC6 := Aside0.mk H
   clear H
   go_upto_if 14 with (fail)
   repeat (go_quiet (fail); go_upto_if 14 with (fail))
   go_cut [3, 4] (fun v3 v4 wc => ∃ (kq : Nat) (x3_5 : Int) (x4_5 : ByteArray), v3 = .int .i64 x3_5 ∧ v4 = .string x4_5 ∧ Aside0 (pollardref05_Ref.j1 kq a0 x3_5 x4_5 = some r) ∧ Aside0 (kq ≤ kj1) ∧ Drawn0 w wc)
   case first =>
    have H := HC6.out
    clear HC6
    by_cases c7 : x14_1 = true
    ·
     subst c7
     have H1 := H
     rw [if_pos rfl] at H1
     clear H
     have H := H1
     clear H1
     by_cases c8 : 6 ≤ (a0.size : Int)
     · rw [if_pos c8] at H
       have c8b0 := eq_true c8
       have c8b1 : decide (6 ≤ (a0.size : Int)) = true := decide_eq_true c8
       clear c8
       have H' := Aside0.mk H
       clear H
       go_wp2
       repeat (go_quiet (fail); try go_wp2)
       go_meet
       case rel => exact ⟨_, (1), (a0.extract 6 a0.size), ez_, ez_, H', ⟨by have := HJ1.out; first | omega | exact Nat.le_refl _⟩, dz_⟩
     · rw [if_neg c8] at H
       exact absurd H (by simp)
    · replace c7 := Bool.eq_false_iff.mpr c7
      subst c7
      have H1 := H
      rw [if_neg (show ¬ (false = true) by decide)] at H1
      clear H
      have H := H1
      clear H1
      have H' := Aside0.mk H
      clear H
      go_wp2
      repeat (go_quiet (fail); try go_wp2)
      go_meet
      case rel => exact ⟨_, (0), ((⟨#[]⟩ : ByteArray)), ez_, ez_, H', ⟨by have := HJ1.out; first | omega | exact Nat.le_refl _⟩, dz_⟩
   case rest =>
    clear HC6
    try clear c1
    try clear p2
    try clear c3
    try clear c3b0
    try clear c3b1
    try clear c4
    try clear c4b0
    try clear c4b1
    try clear c5
    try clear c5b0
    try clear c5b1
    try clear c7
    try clear c8
    try clear c8b0
    try clear c8b1
    try clear p2
    obtain ⟨kq, x3_5, x4_5, rfl, rfl, HA, HJ5, ⟨mc5, rfl⟩⟩ := hcut
    cases kq with
    | zero => exact absurd HA.out (by simp [pollardref05_Ref.j1])
    | succ kj5 =>
     have H := HA.out
     clear HA
     simp only [pollardref05_Ref.j1] at H
     have HC9 := Aside0.mk H
     clear H
     go_upto_region 4 with (fail)
     repeat (go_quiet (fail); go_upto_region 4 with (fail))
     go_cut [24] (fun v24 wc => ∃ (kq : Nat) (x24_8 : Bool), v24 = .bool x24_8 ∧ Aside0 (pollardref05_Ref.j2 kq a0 x3_5 x4_5 x24_8 = some r) ∧ Aside0 (kq ≤ kj5) ∧ Drawn0 w wc)
     case first =>
      have H := HC9.out
      clear HC9
      by_cases c10 : (a0.size : Int) > 5
      ·
       rw [if_pos c10] at H
       have c10b0 : decide (5 < (a0.size : Int)) = true := decide_eq_true c10
       have c10b1 : decide (5 < a0.size) = true := decide_eq_true (by omega)
       clear c10
       (first | rw [c10b0] | (simp only [i64_w, i32_w]; rw [c10b0]) | skip)
       by_cases c11 : 0 ≤ 5
       ·
        rw [if_pos c11] at H
        have c11b0 := eq_true c11
        have c11b1 : decide (0 ≤ 5) = true := decide_eq_true c11
        clear c11
        by_cases c12 : 5 ≤ (a0.size : Int)
        · rw [if_pos c12] at H
          have c12b0 := eq_true c12
          have c12b1 : decide (5 ≤ (a0.size : Int)) = true := decide_eq_true c12
          clear c12
          have H' := Aside0.mk H
          clear H
          go_wp2
          repeat (go_quiet (fail); try go_wp2)
          go_meet
          case rel => exact ⟨_, (((a0.extract 0 5).toList == ([116, 97, 103, 115, 47] : List UInt8))), ez_, H', ⟨by have := HJ1.out; have := HJ5.out; first | omega | exact Nat.le_refl _⟩, dz_⟩
        · rw [if_neg c12] at H
          exact absurd H (by simp)
       · rw [if_neg c11] at H
         exact absurd H (by simp)
      · rw [if_neg c10] at H
        have c10b0 : decide (5 < (a0.size : Int)) = false := decide_eq_false c10
        have c10b1 : decide (5 < a0.size) = false := decide_eq_false (by omega)
        clear c10
        (first | rw [c10b0] | (simp only [i64_w, i32_w]; rw [c10b0]) | skip)
        have H' := Aside0.mk H
        clear H
        go_wp2
        repeat (go_quiet (fail); try go_wp2)
        go_meet
        case rel => exact ⟨_, (false), ez_, H', ⟨by have := HJ1.out; have := HJ5.out; first | omega | exact Nat.le_refl _⟩, dz_⟩
     case rest =>
      clear HC9
      try clear c1
      try clear p2
      try clear c3
      try clear c3b0
      try clear c3b1
      try clear c4
      try clear c4b0
      try clear c4b1
      try clear c5
      try clear c5b0
      try clear c5b1
      try clear c7
      try clear c8
      try clear c8b0
      try clear c8b1
      try clear c10
      try clear c10b0
      try clear c10b1
      try clear c11
      try clear c11b0
      try clear c11b1
      try clear c12
      try clear c12b0
      try clear c12b1
      try clear p2
      obtain ⟨kq, x24_8, rfl, HA, HJ8, ⟨mc8, rfl⟩⟩ := hcut
      cases kq with
      | zero => exact absurd HA.out (by simp [pollardref05_Ref.j2])
      | succ kj8 =>
       have H := HA.out
       clear HA
       simp only [pollardref05_Ref.j2] at H
       have HC13 := Aside0.mk H
       clear H
       go_upto_if 24 with (fail)
       repeat (go_quiet (fail); go_upto_if 24 with (fail))
       go_cut [3, 4] (fun v3 v4 wc => ∃ (kq : Nat) (x3_12 : Int) (x4_12 : ByteArray), v3 = .int .i64 x3_12 ∧ v4 = .string x4_12 ∧ Aside0 (pollardref05_Ref.j3 kq x3_12 x4_12 = some r) ∧ Aside0 (kq ≤ kj8) ∧ Drawn0 w wc)
       case first =>
        have H := HC13.out
        clear HC13
        by_cases c14 : x24_8 = true
        ·
         subst c14
         have H1 := H
         rw [if_pos rfl] at H1
         clear H
         have H := H1
         clear H1
         by_cases c15 : 5 ≤ (a0.size : Int)
         · rw [if_pos c15] at H
           have c15b0 := eq_true c15
           have c15b1 : decide (5 ≤ (a0.size : Int)) = true := decide_eq_true c15
           clear c15
           have H' := Aside0.mk H
           clear H
           go_wp2
           repeat (go_quiet (fail); try go_wp2)
           go_meet
           case rel => exact ⟨_, (2), (a0.extract 5 a0.size), ez_, ez_, H', ⟨by have := HJ1.out; have := HJ5.out; have := HJ8.out; first | omega | exact Nat.le_refl _⟩, dz_⟩
         · rw [if_neg c15] at H
           exact absurd H (by simp)
        · replace c14 := Bool.eq_false_iff.mpr c14
          subst c14
          have H1 := H
          rw [if_neg (show ¬ (false = true) by decide)] at H1
          clear H
          have H := H1
          clear H1
          have H' := Aside0.mk H
          clear H
          go_wp2
          repeat (go_quiet (fail); try go_wp2)
          go_meet
          case rel => exact ⟨_, (x3_5), (x4_5), ez_, ez_, H', ⟨by have := HJ1.out; have := HJ5.out; have := HJ8.out; first | omega | exact Nat.le_refl _⟩, dz_⟩
       case rest =>
        clear HC13
        try clear c1
        try clear p2
        try clear c3
        try clear c3b0
        try clear c3b1
        try clear c4
        try clear c4b0
        try clear c4b1
        try clear c5
        try clear c5b0
        try clear c5b1
        try clear c7
        try clear c8
        try clear c8b0
        try clear c8b1
        try clear c10
        try clear c10b0
        try clear c10b1
        try clear c11
        try clear c11b0
        try clear c11b1
        try clear c12
        try clear c12b0
        try clear c12b1
        try clear c14
        try clear c15
        try clear c15b0
        try clear c15b1
        try clear p2
        obtain ⟨kq, x3_12, x4_12, rfl, rfl, HA, HJ12, ⟨mc12, rfl⟩⟩ := hcut
        cases kq with
        | zero => exact absurd HA.out (by simp [pollardref05_Ref.j3])
        | succ kj12 =>
         have H := HA.out
         clear HA
         simp only [pollardref05_Ref.j3] at H
         have H' := Aside0.mk H
         clear H
         go_wp2
         repeat (go_quiet (fail); try go_wp2)
         go_loopg [5] kj12 (fun kq v5 w' => ∃ (x5_5 : Int), v5 = .int .i64 x5_5 ∧ Aside0 (pollardref05_Ref.l0 kq x3_12 x4_12 x5_5 = some r) ∧ Aside0 (kq ≤ kj12) ∧ Drawn0 w w')
         case atStart => exact ⟨(0), ez_, H', ⟨Nat.le_refl _⟩, dz_⟩
         case round =>
          clear H'
          try clear c1
          try clear p2
          try clear c3
          try clear c3b0
          try clear c3b1
          try clear c4
          try clear c4b0
          try clear c4b1
          try clear c5
          try clear c5b0
          try clear c5b1
          try clear c7
          try clear c8
          try clear c8b0
          try clear c8b1
          try clear c10
          try clear c10b0
          try clear c10b1
          try clear c11
          try clear c11b0
          try clear c11b1
          try clear c12
          try clear c12b0
          try clear c12b1
          try clear c14
          try clear c15
          try clear c15b0
          try clear c15b1
          try clear p2
          obtain ⟨x5_5, rfl, HA, HK5, ⟨m5, rfl⟩⟩ := hrel
          cases gk with
          | zero => exact absurd HA.out (by simp [pollardref05_Ref.l0])
          | succ k5 =>
           have H := HA.out
           clear HA
           simp only [pollardref05_Ref.l0] at H
           by_cases c16 : x5_5 < (x4_12.size : Int)
           ·
            rw [if_pos c16] at H
            have c16b0 : decide (x5_5 < (x4_12.size : Int)) = true := decide_eq_true c16
            clear c16
            by_cases c17 : 0 ≤ x5_5
            ·
             rw [if_pos c17] at H
             have c17b0 : decide (0 ≤ x5_5) = true := decide_eq_true c17
             clear c17
             by_cases c19 : (bt x4_12 x5_5) ≥ 97
             ·
              rw [if_pos c19] at H
              have c19b0 : decide (97 ≤ (bt x4_12 x5_5)) = true := decide_eq_true c19
              clear c19
              by_cases c20 : (bt x4_12 x5_5) ≤ 122
              ·
               rw [if_pos c20] at H
               have c20b0 : decide ((bt x4_12 x5_5) ≤ 122) = true := decide_eq_true c20
               clear c20
               have H' := Aside0.mk H
               clear H
               have p18 : 0 ≤ (x5_5 : Int) := of_decide_eq_true az_
               have q18 : x5_5 < (x4_12.size : Int) := of_decide_eq_true az_
               have hx18 := bt_at x4_12 x5_5
               replace p18 := eq_true p18
               replace q18 := eq_true q18
               go_wp2
               repeat (go_quiet (fail); try go_wp2)
               go_roundg k5
               case measure => have := HJ1.out; have := HJ5.out; have := HJ8.out; have := HJ12.out; have := HK5.out; omega
               case rel => exact ⟨(wrap64 (x5_5 + 1)), ez_, H', ⟨by have := HJ1.out; have := HJ5.out; have := HJ8.out; have := HJ12.out; have := HK5.out; omega⟩, dz_⟩
              ·
               rw [if_neg c20] at H
               have c20b0 : decide ((bt x4_12 x5_5) ≤ 122) = false := decide_eq_false c20
               clear c20
               by_cases c21 : (bt x4_12 x5_5) ≥ 48
               ·
                rw [if_pos c21] at H
                have c21b0 : decide (48 ≤ (bt x4_12 x5_5)) = true := decide_eq_true c21
                clear c21
                by_cases c22 : (bt x4_12 x5_5) ≤ 57
                ·
                 rw [if_pos c22] at H
                 have c22b0 : decide ((bt x4_12 x5_5) ≤ 57) = true := decide_eq_true c22
                 clear c22
                 have H' := Aside0.mk H
                 clear H
                 have p18 : 0 ≤ (x5_5 : Int) := of_decide_eq_true az_
                 have q18 : x5_5 < (x4_12.size : Int) := of_decide_eq_true az_
                 have hx18 := bt_at x4_12 x5_5
                 replace p18 := eq_true p18
                 replace q18 := eq_true q18
                 go_wp2
                 repeat (go_quiet (fail); try go_wp2)
                 go_roundg k5
                 case measure => have := HJ1.out; have := HJ5.out; have := HJ8.out; have := HJ12.out; have := HK5.out; omega
                 case rel => exact ⟨(wrap64 (x5_5 + 1)), ez_, H', ⟨by have := HJ1.out; have := HJ5.out; have := HJ8.out; have := HJ12.out; have := HK5.out; omega⟩, dz_⟩
                ·
                 rw [if_neg c22] at H
                 have c22b0 : decide ((bt x4_12 x5_5) ≤ 57) = false := decide_eq_false c22
                 clear c22
                 by_cases c23 : (bt x4_12 x5_5) = 45
                 ·
                  rw [if_pos c23] at H
                  have c23b0 : ((bt x4_12 x5_5) == 45) = true := beq_iff_eq.mpr c23
                  have c23b1 : ((bt x4_12 x5_5) != 45) = false := bne_eq_false_iff_eq.mpr c23
                  clear c23
                  have H' := Aside0.mk H
                  clear H
                  have p18 : 0 ≤ (x5_5 : Int) := of_decide_eq_true az_
                  have q18 : x5_5 < (x4_12.size : Int) := of_decide_eq_true az_
                  have hx18 := bt_at x4_12 x5_5
                  replace p18 := eq_true p18
                  replace q18 := eq_true q18
                  go_wp2
                  repeat (go_quiet (fail); try go_wp2)
                  go_roundg k5
                  case measure => have := HJ1.out; have := HJ5.out; have := HJ8.out; have := HJ12.out; have := HK5.out; omega
                  case rel => exact ⟨(wrap64 (x5_5 + 1)), ez_, H', ⟨by have := HJ1.out; have := HJ5.out; have := HJ8.out; have := HJ12.out; have := HK5.out; omega⟩, dz_⟩
                 ·
                  rw [if_neg c23] at H
                  have c23b0 : ((bt x4_12 x5_5) == 45) = false := beq_eq_false_iff_ne.mpr c23
                  have c23b1 : ((bt x4_12 x5_5) != 45) = true := bne_iff_ne.mpr c23
                  by_cases c24 : ((bt x4_12 x5_5) = 95)
                  ·
                   rw [if_pos c24] at H
                   have c24b0 : ((bt x4_12 x5_5) == 95) = true := beq_iff_eq.mpr c24
                   have c24b1 : ((bt x4_12 x5_5) != 95) = false := bne_eq_false_iff_eq.mpr c24
                   clear c24
                   have H' := Aside0.mk H
                   clear H
                   have p18 : 0 ≤ (x5_5 : Int) := of_decide_eq_true az_
                   have q18 : x5_5 < (x4_12.size : Int) := of_decide_eq_true az_
                   have hx18 := bt_at x4_12 x5_5
                   replace p18 := eq_true p18
                   replace q18 := eq_true q18
                   go_wp2
                   repeat (go_quiet (fail); try go_wp2)
                   go_roundg k5
                   case measure => have := HJ1.out; have := HJ5.out; have := HJ8.out; have := HJ12.out; have := HK5.out; omega
                   case rel => exact ⟨(wrap64 (x5_5 + 1)), ez_, H', ⟨by have := HJ1.out; have := HJ5.out; have := HJ8.out; have := HJ12.out; have := HK5.out; omega⟩, dz_⟩
                  · rw [if_neg c24] at H
                    have c24b0 : ((bt x4_12 x5_5) == 95) = false := beq_eq_false_iff_ne.mpr c24
                    have c24b1 : ((bt x4_12 x5_5) != 95) = true := bne_iff_ne.mpr c24
                    obtain rfl := Option.some.inj H
                    have p18 : 0 ≤ (x5_5 : Int) := of_decide_eq_true az_
                    have q18 : x5_5 < (x4_12.size : Int) := of_decide_eq_true az_
                    have hx18 := bt_at x4_12 x5_5
                    replace p18 := eq_true p18
                    replace q18 := eq_true q18
                    go_wp2
                    repeat (go_quiet (fail); try go_wp2)
                    go_ret
                    exact ⟨ez_, dz_⟩
               ·
                rw [if_neg c21] at H
                have c21b0 : decide (48 ≤ (bt x4_12 x5_5)) = false := decide_eq_false c21
                clear c21
                by_cases c25 : (bt x4_12 x5_5) = 45
                ·
                 rw [if_pos c25] at H
                 have c25b0 : ((bt x4_12 x5_5) == 45) = true := beq_iff_eq.mpr c25
                 have c25b1 : ((bt x4_12 x5_5) != 45) = false := bne_eq_false_iff_eq.mpr c25
                 clear c25
                 have H' := Aside0.mk H
                 clear H
                 have p18 : 0 ≤ (x5_5 : Int) := of_decide_eq_true az_
                 have q18 : x5_5 < (x4_12.size : Int) := of_decide_eq_true az_
                 have hx18 := bt_at x4_12 x5_5
                 replace p18 := eq_true p18
                 replace q18 := eq_true q18
                 go_wp2
                 repeat (go_quiet (fail); try go_wp2)
                 go_roundg k5
                 case measure => have := HJ1.out; have := HJ5.out; have := HJ8.out; have := HJ12.out; have := HK5.out; omega
                 case rel => exact ⟨(wrap64 (x5_5 + 1)), ez_, H', ⟨by have := HJ1.out; have := HJ5.out; have := HJ8.out; have := HJ12.out; have := HK5.out; omega⟩, dz_⟩
                ·
                 rw [if_neg c25] at H
                 have c25b0 : ((bt x4_12 x5_5) == 45) = false := beq_eq_false_iff_ne.mpr c25
                 have c25b1 : ((bt x4_12 x5_5) != 45) = true := bne_iff_ne.mpr c25
                 by_cases c26 : ((bt x4_12 x5_5) = 95)
                 ·
                  rw [if_pos c26] at H
                  have c26b0 : ((bt x4_12 x5_5) == 95) = true := beq_iff_eq.mpr c26
                  have c26b1 : ((bt x4_12 x5_5) != 95) = false := bne_eq_false_iff_eq.mpr c26
                  clear c26
                  have H' := Aside0.mk H
                  clear H
                  have p18 : 0 ≤ (x5_5 : Int) := of_decide_eq_true az_
                  have q18 : x5_5 < (x4_12.size : Int) := of_decide_eq_true az_
                  have hx18 := bt_at x4_12 x5_5
                  replace p18 := eq_true p18
                  replace q18 := eq_true q18
                  go_wp2
                  repeat (go_quiet (fail); try go_wp2)
                  go_roundg k5
                  case measure => have := HJ1.out; have := HJ5.out; have := HJ8.out; have := HJ12.out; have := HK5.out; omega
                  case rel => exact ⟨(wrap64 (x5_5 + 1)), ez_, H', ⟨by have := HJ1.out; have := HJ5.out; have := HJ8.out; have := HJ12.out; have := HK5.out; omega⟩, dz_⟩
                 · rw [if_neg c26] at H
                   have c26b0 : ((bt x4_12 x5_5) == 95) = false := beq_eq_false_iff_ne.mpr c26
                   have c26b1 : ((bt x4_12 x5_5) != 95) = true := bne_iff_ne.mpr c26
                   obtain rfl := Option.some.inj H
                   have p18 : 0 ≤ (x5_5 : Int) := of_decide_eq_true az_
                   have q18 : x5_5 < (x4_12.size : Int) := of_decide_eq_true az_
                   have hx18 := bt_at x4_12 x5_5
                   replace p18 := eq_true p18
                   replace q18 := eq_true q18
                   go_wp2
                   repeat (go_quiet (fail); try go_wp2)
                   go_ret
                   exact ⟨ez_, dz_⟩
             ·
              rw [if_neg c19] at H
              have c19b0 : decide (97 ≤ (bt x4_12 x5_5)) = false := decide_eq_false c19
              clear c19
              by_cases c27 : (bt x4_12 x5_5) ≥ 48
              ·
               rw [if_pos c27] at H
               have c27b0 : decide (48 ≤ (bt x4_12 x5_5)) = true := decide_eq_true c27
               clear c27
               by_cases c28 : (bt x4_12 x5_5) ≤ 57
               ·
                rw [if_pos c28] at H
                have c28b0 : decide ((bt x4_12 x5_5) ≤ 57) = true := decide_eq_true c28
                clear c28
                have H' := Aside0.mk H
                clear H
                have p18 : 0 ≤ (x5_5 : Int) := of_decide_eq_true az_
                have q18 : x5_5 < (x4_12.size : Int) := of_decide_eq_true az_
                have hx18 := bt_at x4_12 x5_5
                replace p18 := eq_true p18
                replace q18 := eq_true q18
                go_wp2
                repeat (go_quiet (fail); try go_wp2)
                go_roundg k5
                case measure => have := HJ1.out; have := HJ5.out; have := HJ8.out; have := HJ12.out; have := HK5.out; omega
                case rel => exact ⟨(wrap64 (x5_5 + 1)), ez_, H', ⟨by have := HJ1.out; have := HJ5.out; have := HJ8.out; have := HJ12.out; have := HK5.out; omega⟩, dz_⟩
               ·
                rw [if_neg c28] at H
                have c28b0 : decide ((bt x4_12 x5_5) ≤ 57) = false := decide_eq_false c28
                clear c28
                by_cases c29 : (bt x4_12 x5_5) = 45
                ·
                 rw [if_pos c29] at H
                 have c29b0 : ((bt x4_12 x5_5) == 45) = true := beq_iff_eq.mpr c29
                 have c29b1 : ((bt x4_12 x5_5) != 45) = false := bne_eq_false_iff_eq.mpr c29
                 clear c29
                 have H' := Aside0.mk H
                 clear H
                 have p18 : 0 ≤ (x5_5 : Int) := of_decide_eq_true az_
                 have q18 : x5_5 < (x4_12.size : Int) := of_decide_eq_true az_
                 have hx18 := bt_at x4_12 x5_5
                 replace p18 := eq_true p18
                 replace q18 := eq_true q18
                 go_wp2
                 repeat (go_quiet (fail); try go_wp2)
                 go_roundg k5
                 case measure => have := HJ1.out; have := HJ5.out; have := HJ8.out; have := HJ12.out; have := HK5.out; omega
                 case rel => exact ⟨(wrap64 (x5_5 + 1)), ez_, H', ⟨by have := HJ1.out; have := HJ5.out; have := HJ8.out; have := HJ12.out; have := HK5.out; omega⟩, dz_⟩
                ·
                 rw [if_neg c29] at H
                 have c29b0 : ((bt x4_12 x5_5) == 45) = false := beq_eq_false_iff_ne.mpr c29
                 have c29b1 : ((bt x4_12 x5_5) != 45) = true := bne_iff_ne.mpr c29
                 by_cases c30 : ((bt x4_12 x5_5) = 95)
                 ·
                  rw [if_pos c30] at H
                  have c30b0 : ((bt x4_12 x5_5) == 95) = true := beq_iff_eq.mpr c30
                  have c30b1 : ((bt x4_12 x5_5) != 95) = false := bne_eq_false_iff_eq.mpr c30
                  clear c30
                  have H' := Aside0.mk H
                  clear H
                  have p18 : 0 ≤ (x5_5 : Int) := of_decide_eq_true az_
                  have q18 : x5_5 < (x4_12.size : Int) := of_decide_eq_true az_
                  have hx18 := bt_at x4_12 x5_5
                  replace p18 := eq_true p18
                  replace q18 := eq_true q18
                  go_wp2
                  repeat (go_quiet (fail); try go_wp2)
                  go_roundg k5
                  case measure => have := HJ1.out; have := HJ5.out; have := HJ8.out; have := HJ12.out; have := HK5.out; omega
                  case rel => exact ⟨(wrap64 (x5_5 + 1)), ez_, H', ⟨by have := HJ1.out; have := HJ5.out; have := HJ8.out; have := HJ12.out; have := HK5.out; omega⟩, dz_⟩
                 · rw [if_neg c30] at H
                   have c30b0 : ((bt x4_12 x5_5) == 95) = false := beq_eq_false_iff_ne.mpr c30
                   have c30b1 : ((bt x4_12 x5_5) != 95) = true := bne_iff_ne.mpr c30
                   obtain rfl := Option.some.inj H
                   have p18 : 0 ≤ (x5_5 : Int) := of_decide_eq_true az_
                   have q18 : x5_5 < (x4_12.size : Int) := of_decide_eq_true az_
                   have hx18 := bt_at x4_12 x5_5
                   replace p18 := eq_true p18
                   replace q18 := eq_true q18
                   go_wp2
                   repeat (go_quiet (fail); try go_wp2)
                   go_ret
                   exact ⟨ez_, dz_⟩
              ·
               rw [if_neg c27] at H
               have c27b0 : decide (48 ≤ (bt x4_12 x5_5)) = false := decide_eq_false c27
               clear c27
               by_cases c31 : (bt x4_12 x5_5) = 45
               ·
                rw [if_pos c31] at H
                have c31b0 : ((bt x4_12 x5_5) == 45) = true := beq_iff_eq.mpr c31
                have c31b1 : ((bt x4_12 x5_5) != 45) = false := bne_eq_false_iff_eq.mpr c31
                clear c31
                have H' := Aside0.mk H
                clear H
                have p18 : 0 ≤ (x5_5 : Int) := of_decide_eq_true az_
                have q18 : x5_5 < (x4_12.size : Int) := of_decide_eq_true az_
                have hx18 := bt_at x4_12 x5_5
                replace p18 := eq_true p18
                replace q18 := eq_true q18
                go_wp2
                repeat (go_quiet (fail); try go_wp2)
                go_roundg k5
                case measure => have := HJ1.out; have := HJ5.out; have := HJ8.out; have := HJ12.out; have := HK5.out; omega
                case rel => exact ⟨(wrap64 (x5_5 + 1)), ez_, H', ⟨by have := HJ1.out; have := HJ5.out; have := HJ8.out; have := HJ12.out; have := HK5.out; omega⟩, dz_⟩
               ·
                rw [if_neg c31] at H
                have c31b0 : ((bt x4_12 x5_5) == 45) = false := beq_eq_false_iff_ne.mpr c31
                have c31b1 : ((bt x4_12 x5_5) != 45) = true := bne_iff_ne.mpr c31
                by_cases c32 : ((bt x4_12 x5_5) = 95)
                ·
                 rw [if_pos c32] at H
                 have c32b0 : ((bt x4_12 x5_5) == 95) = true := beq_iff_eq.mpr c32
                 have c32b1 : ((bt x4_12 x5_5) != 95) = false := bne_eq_false_iff_eq.mpr c32
                 clear c32
                 have H' := Aside0.mk H
                 clear H
                 have p18 : 0 ≤ (x5_5 : Int) := of_decide_eq_true az_
                 have q18 : x5_5 < (x4_12.size : Int) := of_decide_eq_true az_
                 have hx18 := bt_at x4_12 x5_5
                 replace p18 := eq_true p18
                 replace q18 := eq_true q18
                 go_wp2
                 repeat (go_quiet (fail); try go_wp2)
                 go_roundg k5
                 case measure => have := HJ1.out; have := HJ5.out; have := HJ8.out; have := HJ12.out; have := HK5.out; omega
                 case rel => exact ⟨(wrap64 (x5_5 + 1)), ez_, H', ⟨by have := HJ1.out; have := HJ5.out; have := HJ8.out; have := HJ12.out; have := HK5.out; omega⟩, dz_⟩
                · rw [if_neg c32] at H
                  have c32b0 : ((bt x4_12 x5_5) == 95) = false := beq_eq_false_iff_ne.mpr c32
                  have c32b1 : ((bt x4_12 x5_5) != 95) = true := bne_iff_ne.mpr c32
                  obtain rfl := Option.some.inj H
                  have p18 : 0 ≤ (x5_5 : Int) := of_decide_eq_true az_
                  have q18 : x5_5 < (x4_12.size : Int) := of_decide_eq_true az_
                  have hx18 := bt_at x4_12 x5_5
                  replace p18 := eq_true p18
                  replace q18 := eq_true q18
                  go_wp2
                  repeat (go_quiet (fail); try go_wp2)
                  go_ret
                  exact ⟨ez_, dz_⟩
            · rw [if_neg c17] at H
              exact absurd H (by simp)
           ·
            rw [if_neg c16] at H
            have c16b0 : decide (x5_5 < (x4_12.size : Int)) = false := decide_eq_false c16
            clear c16
            by_cases c33 : (x4_12.size : Int) > 64
            · rw [if_pos c33] at H
              have c33b0 : decide (64 < (x4_12.size : Int)) = true := decide_eq_true c33
              have c33b1 : decide (64 < x4_12.size) = true := decide_eq_true (by omega)
              clear c33
              obtain rfl := Option.some.inj H
              go_wp2
              repeat (go_quiet (fail); try go_wp2)
              go_ret
              exact ⟨ez_, dz_⟩
            · rw [if_neg c33] at H
              have c33b0 : decide (64 < (x4_12.size : Int)) = false := decide_eq_false c33
              have c33b1 : decide (64 < x4_12.size) = false := decide_eq_false (by omega)
              clear c33
              obtain rfl := Option.some.inj H
              go_wp2
              repeat (go_quiet (fail); try go_wp2)
              go_ret
              exact ⟨ez_, dz_⟩

end Go.Proofs.Ytgepbdkbleapaaa.M
