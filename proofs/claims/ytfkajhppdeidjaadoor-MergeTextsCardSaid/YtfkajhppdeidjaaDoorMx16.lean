/- The program's functions as plain functions, and that each call comes to what these tell; written by a program of this session, some contracts by hand. Conditions: none. -/
import Derived.Test.YtfkajhppdeidjaaDoorMx0
namespace Go.Proofs.YtfkajhppdeidjaaDoor.M
open Go.RowKit Go.Proofs.YtfkajhppdeidjaaDoorW.PrintWords Go.Proofs.YtfkajhppdeidjaaDoorW.PrintLast Go.Proofs.YtfkajhppdeidjaaDoorW.PrintMore
attribute [local go_sem] max2_int min2_int max_two min_two max_three min_three max_four min_four   -- for this text's walks alone
set_option linter.unusedVariables false
set_option linter.unusedSimpArgs false

/-! ### pollardlaw19_text: function 14 -/
mutual
def pollardlaw19_text.l0 : Nat → List ByteArray → ByteArray → Int → Option (ByteArray)
 | 0, _, _, _ => none
 | k + 1, x0, x3, x4 => if x4 < (x0.length : Int) then (pollardlaw19_text.j1 k x0 x3 x4 (decide (x4 < 30))) else (pollardlaw19_text.j1 k x0 x3 x4 false)
def pollardlaw19_text.j1 : Nat → List ByteArray → ByteArray → Int → Bool → Option (ByteArray)
 | 0, _, _, _, _ => none
 | k + 1, x0, x3, x4, x14 => if x14 = true then (if 0 ≤ x4 then (if x4 < (x0.length : Int) then (if ((rdOf ByteArray.empty x0 x4).size : Int) > 20 then (if 0 ≤ 20 then (if 20 ≤ ((rdOf ByteArray.empty x0 x4).size : Int) then (pollardlaw19_text.j2 k x0 x3 x4 ((rdOf ByteArray.empty x0 x4).extract 0 20)) else (none)) else (none)) else (pollardlaw19_text.j2 k x0 x3 x4 (rdOf ByteArray.empty x0 x4))) else (none)) else (none)) else (some x3)
def pollardlaw19_text.j2 : Nat → List ByteArray → ByteArray → Int → ByteArray → Option (ByteArray)
 | 0, _, _, _, _ => none
 | k + 1, x0, x3, x4, x5 => pollardlaw19_text.l1 k x0 x3 x4 x5 0
def pollardlaw19_text.l1 : Nat → List ByteArray → ByteArray → Int → ByteArray → Int → Option (ByteArray)
 | 0, _, _, _, _, _ => none
 | k + 1, x0, x3, x4, x5, x6 => if x6 < (x5.size : Int) then (if 0 ≤ x6 then (if (bt x5 x6) = 10 then (pollardlaw19_text.l1 k x0 x3 x4 x5 (wrap64 (x6 + 1))) else (if x6 ≤ (wrap64 (x6 + 1)) then (if (wrap64 (x6 + 1)) ≤ (x5.size : Int) then (if x3.size + (x5.extract (x6 : Int).toNat ((wrap64 (x6 + 1)) : Int).toNat).size ≤ 9223372036854775807 then (pollardlaw19_text.l1 k x0 (x3 ++ (x5.extract (x6 : Int).toNat ((wrap64 (x6 + 1)) : Int).toNat)) x4 x5 (wrap64 (x6 + 1))) else (none)) else (none)) else (none))) else (none)) else (if x3.size + 1 ≤ 9223372036854775807 then (pollardlaw19_text.l0 k x0 (x3 ++ (⟨#[10]⟩ : ByteArray)) (wrap64 (x4 + 1))) else (none))
end
def pollardlaw19_text.f (k : Nat) (l0 : List ByteArray) : Option (ByteArray) := pollardlaw19_text.l0 k l0 (⟨#[]⟩ : ByteArray) 0
theorem pollardlaw19_text.mono_l : ∀ k, (∀ y0 y1 y2, LeO (pollardlaw19_text.l0 k y0 y1 y2) (pollardlaw19_text.l0 (k + 1) y0 y1 y2)) ∧ (∀ y0 y1 y2 y3, LeO (pollardlaw19_text.j1 k y0 y1 y2 y3) (pollardlaw19_text.j1 (k + 1) y0 y1 y2 y3)) ∧ (∀ y0 y1 y2 y3, LeO (pollardlaw19_text.j2 k y0 y1 y2 y3) (pollardlaw19_text.j2 (k + 1) y0 y1 y2 y3)) ∧ (∀ y0 y1 y2 y3 y4, LeO (pollardlaw19_text.l1 k y0 y1 y2 y3 y4) (pollardlaw19_text.l1 (k + 1) y0 y1 y2 y3 y4))
 | 0 => ⟨fun _ _ _ r h => by simp [pollardlaw19_text.l0] at h, fun _ _ _ _ r h => by simp [pollardlaw19_text.j1] at h, fun _ _ _ _ r h => by simp [pollardlaw19_text.j2] at h, fun _ _ _ _ _ r h => by simp [pollardlaw19_text.l1] at h⟩
 | k + 1 => by
  obtain ⟨ih0, ih1, ih2, ih3⟩ := pollardlaw19_text.mono_l k
  refine ⟨?_, ?_, ?_, ?_⟩
  ·
   intro y0 y1 y2
   unfold pollardlaw19_text.l0
   repeat' first
   | (with_reducible exact ih0 _ _ _)
   | (with_reducible exact ih1 _ _ _ _)
   | (with_reducible exact ih2 _ _ _ _)
   | (with_reducible exact ih3 _ _ _ _ _)
   | (with_reducible exact LeO.refl _)
   | (with_reducible exact LeO.none _)
   | (with_reducible refine LeO.ite ?_ ?_)
   | (with_reducible refine LeO.bind ?_ (fun _ => ?_))
   | exact ih0 _ _ _
   | exact ih1 _ _ _ _
   | exact ih2 _ _ _ _
   | exact ih3 _ _ _ _ _
   | exact LeO.none _
   | refine LeO.ite ?_ ?_
   | refine LeO.bind ?_ (fun _ => ?_)
  ·
   intro y0 y1 y2 y3
   unfold pollardlaw19_text.j1
   repeat' first
   | (with_reducible exact ih0 _ _ _)
   | (with_reducible exact ih1 _ _ _ _)
   | (with_reducible exact ih2 _ _ _ _)
   | (with_reducible exact ih3 _ _ _ _ _)
   | (with_reducible exact LeO.refl _)
   | (with_reducible exact LeO.none _)
   | (with_reducible refine LeO.ite ?_ ?_)
   | (with_reducible refine LeO.bind ?_ (fun _ => ?_))
   | exact ih0 _ _ _
   | exact ih1 _ _ _ _
   | exact ih2 _ _ _ _
   | exact ih3 _ _ _ _ _
   | exact LeO.none _
   | refine LeO.ite ?_ ?_
   | refine LeO.bind ?_ (fun _ => ?_)
  ·
   intro y0 y1 y2 y3
   unfold pollardlaw19_text.j2
   repeat' first
   | (with_reducible exact ih0 _ _ _)
   | (with_reducible exact ih1 _ _ _ _)
   | (with_reducible exact ih2 _ _ _ _)
   | (with_reducible exact ih3 _ _ _ _ _)
   | (with_reducible exact LeO.refl _)
   | (with_reducible exact LeO.none _)
   | (with_reducible refine LeO.ite ?_ ?_)
   | (with_reducible refine LeO.bind ?_ (fun _ => ?_))
   | exact ih0 _ _ _
   | exact ih1 _ _ _ _
   | exact ih2 _ _ _ _
   | exact ih3 _ _ _ _ _
   | exact LeO.none _
   | refine LeO.ite ?_ ?_
   | refine LeO.bind ?_ (fun _ => ?_)
  ·
   intro y0 y1 y2 y3 y4
   unfold pollardlaw19_text.l1
   repeat' first
   | (with_reducible exact ih0 _ _ _)
   | (with_reducible exact ih1 _ _ _ _)
   | (with_reducible exact ih2 _ _ _ _)
   | (with_reducible exact ih3 _ _ _ _ _)
   | (with_reducible exact LeO.refl _)
   | (with_reducible exact LeO.none _)
   | (with_reducible refine LeO.ite ?_ ?_)
   | (with_reducible refine LeO.bind ?_ (fun _ => ?_))
   | exact ih0 _ _ _
   | exact ih1 _ _ _ _
   | exact ih2 _ _ _ _
   | exact ih3 _ _ _ _ _
   | exact LeO.none _
   | refine LeO.ite ?_ ?_
   | refine LeO.bind ?_ (fun _ => ?_)
theorem pollardlaw19_text.mono : ∀ a0 k, LeO (pollardlaw19_text.f k a0) (pollardlaw19_text.f (k + 1) a0) := by
 intro a0 k
 obtain ⟨ih0, ih1, ih2, ih3⟩ := pollardlaw19_text.mono_l k
 unfold pollardlaw19_text.f
 repeat' first
  | (with_reducible exact ih0 _ _ _)
  | (with_reducible exact ih1 _ _ _ _)
  | (with_reducible exact ih2 _ _ _ _)
  | (with_reducible exact ih3 _ _ _ _ _)
  | (with_reducible exact LeO.refl _)
  | (with_reducible exact LeO.none _)
  | (with_reducible refine LeO.ite ?_ ?_)
  | (with_reducible refine LeO.bind ?_ (fun _ => ?_))
  | exact ih0 _ _ _
  | exact ih1 _ _ _ _
  | exact ih2 _ _ _ _
  | exact ih3 _ _ _ _ _
  | exact LeO.none _
  | refine LeO.ite ?_ ?_
  | refine LeO.bind ?_ (fun _ => ?_)
set_option maxHeartbeats 8000000 in
set_option maxRecDepth 100000 in
theorem pollardlaw19_text.calls (k : Nat) (A0 : Option Addr) (c0 : Nat) (l0 : List ByteArray) (r : ByteArray) (w : World) (hr0 : Kd.C Kd.string w A0 l0.length l0) (hc0 : l0.length ≤ c0) (h : pollardlaw19_text.f k l0 = some r) :
 Calls Tryd.prog 14 #[.slice A0 l0.length c0] w fun e w' => e = .returned (.string r) ∧ Drawn0 w w' := by
 have HR0 := Aside0.mk hr0
 have HC0 := Aside0.mk hc0
 clear hr0 hc0
 have H : (pollardlaw19_text.l0 k l0 (⟨#[]⟩ : ByteArray) 0) = some r := h
 clear h
 have H' := Aside0.mk H
 clear H
 go_enter Tryd.func14, Tryd.ntmps14
 go_wp2
 go_loopg [3, 4] k (fun kq v3 v4 w' => ∃ (x3_1 : ByteArray) (x4_1 : Int), v3 = .string x3_1 ∧ v4 = .int .i64 x4_1 ∧ Aside0 (pollardlaw19_text.l0 kq l0 x3_1 x4_1 = some r) ∧ Aside0 (kq ≤ k) ∧ Drawn0 w w')
 case atStart => exact ⟨((⟨#[]⟩ : ByteArray)), (0), (by first | rfl | (simp; done) | (simp [*]; done)), (by first | rfl | (simp; done) | (simp [*]; done)), H', ⟨Nat.le_refl _⟩, by repeat (first | exact Drawn0.refl _ | apply Drawn0.step)⟩
 case round =>
  clear H'
  try clear c1
  obtain ⟨x3_1, x4_1, rfl, rfl, HA, HK1, ⟨m1, rfl⟩⟩ := hrel
  cases gk with
  | zero => exact absurd HA.out (by simp [pollardlaw19_text.l0])
  | succ k1 =>
   have H := HA.out
   clear HA
   simp only [pollardlaw19_text.l0] at H
   have HC2 := Aside0.mk H
   clear H
   go_upto_region 3 with (fail)
   go_cut [14] (fun v14 wc => ∃ (kq : Nat) (x14_1 : Bool), v14 = .bool x14_1 ∧ Aside0 (pollardlaw19_text.j1 kq l0 x3_1 x4_1 x14_1 = some r) ∧ Aside0 (kq ≤ k1) ∧ Drawn0 w wc)
   case first =>
    have H := HC2.out
    clear HC2
    by_cases c3 : x4_1 < (l0.length : Int)
    · rw [if_pos c3] at H
      have c3b0 : decide (x4_1 < (l0.length : Int)) = true := decide_eq_true c3
      clear c3
      (first | rw [c3b0] | (simp only [i64_w, i32_w]; rw [c3b0]) | skip)
      have H' := Aside0.mk H
      clear H
      go_wp2
      go_meet
      case rel => exact ⟨_, (decide (x4_1 < 30)), (by first | rfl | (simp; done) | (simp [*]; done)), H', ⟨by have := HK1.out; first | omega | exact Nat.le_refl _⟩, by repeat (first | exact Drawn0.refl _ | apply Drawn0.step)⟩
    · rw [if_neg c3] at H
      have c3b0 : decide (x4_1 < (l0.length : Int)) = false := decide_eq_false c3
      clear c3
      (first | rw [c3b0] | (simp only [i64_w, i32_w]; rw [c3b0]) | skip)
      have H' := Aside0.mk H
      clear H
      go_wp2
      go_meet
      case rel => exact ⟨_, (false), (by first | rfl | (simp; done) | (simp [*]; done)), H', ⟨by have := HK1.out; first | omega | exact Nat.le_refl _⟩, by repeat (first | exact Drawn0.refl _ | apply Drawn0.step)⟩
   case rest =>
    clear HC2
    try clear c1
    try clear p2
    try clear c3
    try clear c3b0
    obtain ⟨kq, x14_1, rfl, HA, HJ1, ⟨mc1, rfl⟩⟩ := hcut
    cases kq with
    | zero => exact absurd HA.out (by simp [pollardlaw19_text.j1])
    | succ kj1 =>
     have H := HA.out
     clear HA
     simp only [pollardlaw19_text.j1] at H
     by_cases c4 : x14_1 = true
     ·
      subst c4
      have H1 : (if 0 ≤ x4_1 then (if x4_1 < (l0.length : Int) then (if ((rdOf ByteArray.empty l0 x4_1).size : Int) > 20 then (if 0 ≤ 20 then (if 20 ≤ ((rdOf ByteArray.empty l0 x4_1).size : Int) then (pollardlaw19_text.j2 kj1 l0 x3_1 x4_1 ((rdOf ByteArray.empty l0 x4_1).extract 0 20)) else (none)) else (none)) else (pollardlaw19_text.j2 kj1 l0 x3_1 x4_1 (rdOf ByteArray.empty l0 x4_1))) else (none)) else (none)) = some r := by rw [if_pos rfl] at H; exact H
      clear H
      have H := H1
      clear H1
      by_cases c5 : 0 ≤ x4_1
      ·
       rw [if_pos c5] at H
       have c5b0 : decide (0 ≤ x4_1) = true := decide_eq_true c5
       clear c5
       by_cases c6 : x4_1 < (l0.length : Int)
       ·
        rw [if_pos c6] at H
        have c6b0 : decide (x4_1 < (l0.length : Int)) = true := decide_eq_true c6
        clear c6
        have HC7 := Aside0.mk H
        clear H
        have p388 : 0 ≤ (x4_1 : Int) := of_decide_eq_true (by first | (with_reducible assumption) | assumption)
        have q388 : x4_1 < (l0.length : Int) := of_decide_eq_true (by first | (with_reducible assumption) | assumption)
        obtain ⟨ad388, e388, hx388_0⟩ := Kd.at_string HR0.out x4_1 p388 q388
        cases e388
        replace p388 := eq_true p388
        replace q388 := eq_true q388
        go_upto_if 23 with (fail)
        go_cut [5] (fun v5 wc => ∃ (kq : Nat) (x5_6 : ByteArray), v5 = .string x5_6 ∧ Aside0 (pollardlaw19_text.j2 kq l0 x3_1 x4_1 x5_6 = some r) ∧ Aside0 (kq ≤ kj1) ∧ Drawn0 w wc)
        case first =>
         have H := HC7.out
         clear HC7
         by_cases c8 : ((rdOf ByteArray.empty l0 x4_1).size : Int) > 20
         ·
          rw [if_pos c8] at H
          have c8b0 : decide (20 < ((rdOf ByteArray.empty l0 x4_1).size : Int)) = true := decide_eq_true c8
          have c8b1 : decide (20 < (rdOf ByteArray.empty l0 x4_1).size) = true := decide_eq_true (by omega)
          clear c8
          (first | rw [c8b0] | (simp only [i64_w, i32_w]; rw [c8b0]) | skip)
          by_cases c9 : 0 ≤ 20
          ·
           rw [if_pos c9] at H
           have c9b0 := eq_true c9
           have c9b1 : decide (0 ≤ 20) = true := decide_eq_true c9
           clear c9
           by_cases c10 : 20 ≤ ((rdOf ByteArray.empty l0 x4_1).size : Int)
           · rw [if_pos c10] at H
             have c10b0 := eq_true c10
             have c10b1 : decide (20 ≤ ((rdOf ByteArray.empty l0 x4_1).size : Int)) = true := decide_eq_true c10
             clear c10
             have H' := Aside0.mk H
             clear H
             go_wp2
             go_meet
             case rel => exact ⟨_, ((rdOf ByteArray.empty l0 x4_1).extract 0 20), (by first | rfl | (simp; done) | (simp [*]; done)), H', ⟨by have := HK1.out; have := HJ1.out; first | omega | exact Nat.le_refl _⟩, by repeat (first | exact Drawn0.refl _ | apply Drawn0.step)⟩
           · rw [if_neg c10] at H
             exact absurd H (by simp)
          · rw [if_neg c9] at H
            exact absurd H (by simp)
         · rw [if_neg c8] at H
           have c8b0 : decide (20 < ((rdOf ByteArray.empty l0 x4_1).size : Int)) = false := decide_eq_false c8
           have c8b1 : decide (20 < (rdOf ByteArray.empty l0 x4_1).size) = false := decide_eq_false (by omega)
           clear c8
           (first | rw [c8b0] | (simp only [i64_w, i32_w]; rw [c8b0]) | skip)
           have H' := Aside0.mk H
           clear H
           go_wp2
           go_meet
           case rel => exact ⟨_, (rdOf ByteArray.empty l0 x4_1), (by first | rfl | (simp; done) | (simp [*]; done)), H', ⟨by have := HK1.out; have := HJ1.out; first | omega | exact Nat.le_refl _⟩, by repeat (first | exact Drawn0.refl _ | apply Drawn0.step)⟩
        case rest =>
         clear HC7
         try clear c1
         try clear p2
         try clear c3
         try clear c3b0
         try clear p3
         try clear q3
         try clear hx3
         try clear c4
         try clear c5
         try clear c5b0
         try clear c6
         try clear c6b0
         try clear c8
         try clear c8b0
         try clear c8b1
         try clear c9
         try clear c9b0
         try clear c9b1
         try clear c10
         try clear c10b0
         try clear c10b1
         try clear hx388_0
         try clear p2
         try clear p388
         try clear q388
         obtain ⟨kq, x5_6, rfl, HA, HJ6, ⟨mc6, rfl⟩⟩ := hcut
         cases kq with
         | zero => exact absurd HA.out (by simp [pollardlaw19_text.j2])
         | succ kj6 =>
          have H := HA.out
          clear HA
          simp only [pollardlaw19_text.j2] at H
          have H' := Aside0.mk H
          clear H
          go_wp2
          go_loopg [3, 6] kj6 (fun kq v3 v6 w' => ∃ (x3_4 : ByteArray) (x6_4 : Int), v3 = .string x3_4 ∧ v6 = .int .i64 x6_4 ∧ Aside0 (pollardlaw19_text.l1 kq l0 x3_4 x4_1 x5_6 x6_4 = some r) ∧ Aside0 (kq ≤ kj6) ∧ Drawn0 w w')
          case atStart => exact ⟨(x3_1), (0), (by first | rfl | (simp; done) | (simp [*]; done)), (by first | rfl | (simp; done) | (simp [*]; done)), H', ⟨Nat.le_refl _⟩, by repeat (first | exact Drawn0.refl _ | apply Drawn0.step)⟩
          case round =>
           clear H'
           try clear c1
           try clear p2
           try clear c3
           try clear c3b0
           try clear p3
           try clear q3
           try clear hx3
           try clear c4
           try clear c5
           try clear c5b0
           try clear c6
           try clear c6b0
           try clear c8
           try clear c8b0
           try clear c8b1
           try clear c9
           try clear c9b0
           try clear c9b1
           try clear c10
           try clear c10b0
           try clear c10b1
           try clear hx388_0
           try clear p2
           try clear p3
           try clear p388
           try clear q3
           try clear q388
           obtain ⟨x3_4, x6_4, rfl, rfl, HA, HK4, ⟨m4, rfl⟩⟩ := hrel
           cases gk with
           | zero => exact absurd HA.out (by simp [pollardlaw19_text.l1])
           | succ k4 =>
            have H := HA.out
            clear HA
            simp only [pollardlaw19_text.l1] at H
            by_cases c11 : x6_4 < (x5_6.size : Int)
            ·
             rw [if_pos c11] at H
             have c11b0 : decide (x6_4 < (x5_6.size : Int)) = true := decide_eq_true c11
             clear c11
             by_cases c12 : 0 ≤ x6_4
             ·
              rw [if_pos c12] at H
              have c12b0 : decide (0 ≤ x6_4) = true := decide_eq_true c12
              clear c12
              by_cases c14 : (bt x5_6 x6_4) = 10
              ·
               rw [if_pos c14] at H
               have c14b0 : ((bt x5_6 x6_4) == 10) = true := beq_iff_eq.mpr c14
               have c14b1 : ((bt x5_6 x6_4) != 10) = false := bne_eq_false_iff_eq.mpr c14
               clear c14
               have H' := Aside0.mk H
               clear H
               have p13 : 0 ≤ (x6_4 : Int) := of_decide_eq_true (by first | (with_reducible assumption) | assumption)
               have q13 : x6_4 < (x5_6.size : Int) := of_decide_eq_true (by first | (with_reducible assumption) | assumption)
               have hx13 := bt_at x5_6 x6_4
               replace p13 := eq_true p13
               replace q13 := eq_true q13
               go_wp2
               go_roundg k4
               case measure => have := HK1.out; have := HJ1.out; have := HJ6.out; have := HK4.out; omega
               case rel => exact ⟨(x3_4), (wrap64 (x6_4 + 1)), (by first | rfl | (simp; done) | (simp [*]; done)), (by first | rfl | (simp; done) | (simp [*]; done)), H', ⟨by have := HK1.out; have := HJ1.out; have := HJ6.out; have := HK4.out; omega⟩, by repeat (first | exact Drawn0.refl _ | apply Drawn0.step)⟩
              ·
               rw [if_neg c14] at H
               have c14b0 : ((bt x5_6 x6_4) == 10) = false := beq_eq_false_iff_ne.mpr c14
               have c14b1 : ((bt x5_6 x6_4) != 10) = true := bne_iff_ne.mpr c14
               have c15b0 := eq_true (of_decide_eq_true (by first | (with_reducible assumption) | assumption) : 0 ≤ x6_4)
               by_cases c16 : x6_4 ≤ (wrap64 (x6_4 + 1))
               ·
                rw [if_pos c16] at H
                have c16b0 := eq_true c16
                have c16b1 : decide (x6_4 ≤ (wrap64 (x6_4 + 1))) = true := decide_eq_true c16
                by_cases c17 : (wrap64 (x6_4 + 1)) ≤ (x5_6.size : Int)
                ·
                 rw [if_pos c17] at H
                 have c17b0 := eq_true c17
                 have c17b1 : decide ((wrap64 (x6_4 + 1)) ≤ (x5_6.size : Int)) = true := decide_eq_true c17
                 by_cases c18 : x3_4.size + (x5_6.extract (x6_4 : Int).toNat ((wrap64 (x6_4 + 1)) : Int).toNat).size ≤ 9223372036854775807
                 ·
                  rw [if_pos c18] at H
                  have c18b0 := eq_true c18
                  have c18b1 : decide (x3_4.size + (x5_6.extract (x6_4 : Int).toNat ((wrap64 (x6_4 + 1)) : Int).toNat).size ≤ 9223372036854775807) = true := decide_eq_true c18
                  try have c18b2 : (9223372036854775807 < x3_4.size + (x5_6.extract (x6_4 : Int).toNat ((wrap64 (x6_4 + 1)) : Int).toNat).size) = False := eq_false (Nat.not_lt.2 c18)
                  have H' := Aside0.mk H
                  clear H
                  have p13 : 0 ≤ (x6_4 : Int) := of_decide_eq_true (by first | (with_reducible assumption) | assumption)
                  have q13 : x6_4 < (x5_6.size : Int) := of_decide_eq_true (by first | (with_reducible assumption) | assumption)
                  have hx13 := bt_at x5_6 x6_4
                  replace p13 := eq_true p13
                  replace q13 := eq_true q13
                  go_wp2
                  go_roundg k4
                  case measure => have := HK1.out; have := HJ1.out; have := HJ6.out; have := HK4.out; omega
                  case rel => exact ⟨(x3_4 ++ (x5_6.extract (x6_4 : Int).toNat ((wrap64 (x6_4 + 1)) : Int).toNat)), (wrap64 (x6_4 + 1)), (by first | rfl | (simp; done) | (simp [*]; done)), (by first | rfl | (simp; done) | (simp [*]; done)), H', ⟨by have := HK1.out; have := HJ1.out; have := HJ6.out; have := HK4.out; omega⟩, by repeat (first | exact Drawn0.refl _ | apply Drawn0.step)⟩
                 · rw [if_neg c18] at H
                   exact absurd H (by simp)
                · rw [if_neg c17] at H
                  exact absurd H (by simp)
               · rw [if_neg c16] at H
                 exact absurd H (by simp)
             · rw [if_neg c12] at H
               exact absurd H (by simp)
            ·
             rw [if_neg c11] at H
             have c11b0 : decide (x6_4 < (x5_6.size : Int)) = false := decide_eq_false c11
             clear c11
             by_cases c19 : x3_4.size + 1 ≤ 9223372036854775807
             · rw [if_pos c19] at H
               have c19b0 := eq_true c19
               have c19b1 : decide (x3_4.size + 1 ≤ 9223372036854775807) = true := decide_eq_true c19
               try have c19b2 : (9223372036854775807 < x3_4.size + 1) = False := eq_false (Nat.not_lt.2 c19)
               have H' := Aside0.mk H
               clear H
               go_wp2
               go_roundg k4
               case measure => have := HK1.out; have := HJ1.out; have := HJ6.out; have := HK4.out; omega
               case rel => exact ⟨(x3_4 ++ (⟨#[10]⟩ : ByteArray)), (wrap64 (x4_1 + 1)), (by first | rfl | (simp; done) | (simp [*]; done)), (by first | rfl | (simp; done) | (simp [*]; done)), H', ⟨by have := HK1.out; have := HJ1.out; have := HJ6.out; have := HK4.out; omega⟩, by repeat (first | exact Drawn0.refl _ | apply Drawn0.step)⟩
             · rw [if_neg c19] at H
               exact absurd H (by simp)
       · rw [if_neg c6] at H
         exact absurd H (by simp)
      · rw [if_neg c5] at H
        exact absurd H (by simp)
     · replace c4 := Bool.eq_false_iff.mpr c4
       subst c4
       have H1 : (some x3_1) = some r := by rw [if_neg (show ¬ (false = true) by decide)] at H; exact H
       clear H
       have H := H1
       clear H1
       obtain rfl := Option.some.inj H
       go_wp2
       go_ret
       exact ⟨by first | rfl | (simp; done) | (simp [*]; done), by repeat (first | exact Drawn0.refl _ | apply Drawn0.step)⟩

end Go.Proofs.YtfkajhppdeidjaaDoor.M
