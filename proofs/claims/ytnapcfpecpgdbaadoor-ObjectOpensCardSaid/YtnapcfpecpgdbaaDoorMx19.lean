/- The program's functions as plain functions, and that each call comes to what these tell; written by a program of this session, some contracts by hand. Conditions: none. -/
import Derived.Test.YtnapcfpecpgdbaaDoorMx0
import Derived.Test.YtnapcfpecpgdbaaDoorMx6
namespace Go.Proofs.YtnapcfpecpgdbaaDoor.M
open Go.RowKit Go.Proofs.YtnapcfpecpgdbaaDoorW.PrintWords Go.Proofs.YtnapcfpecpgdbaaDoorW.PrintLast Go.Proofs.YtnapcfpecpgdbaaDoorW.PrintMore
attribute [local go_sem] max2_int min2_int max_two min_two max_three min_three max_four min_four   -- for this text's walks alone
set_option linter.unusedVariables false
set_option linter.unusedSimpArgs false

/-! ### r7_line: function 24 -/
def r7_line.f (k : Nat) (a0 : ByteArray) (a1 : ByteArray) : Option (ByteArray × ByteArray × Bool) := (r7_index.f k a0 10).bind fun t277 => (if t277 < (wrap64 ((a1.size : Int) + 1)) then (some ((⟨#[]⟩ : ByteArray), a0, false)) else (if 0 ≤ (wrap64 ((a1.size : Int) + 1)) then (if (wrap64 ((a1.size : Int) + 1)) ≤ (a0.size : Int) then (if a1.size + 1 ≤ 9223372036854775807 then (if (a0.extract 0 ((wrap64 ((a1.size : Int) + 1)) : Int).toNat).toList = (a1 ++ (⟨#[32]⟩ : ByteArray)).toList then (if (wrap64 ((a1.size : Int) + 1)) ≤ t277 then (if t277 ≤ (a0.size : Int) then (if 0 ≤ (wrap64 (t277 + 1)) then (if (wrap64 (t277 + 1)) ≤ (a0.size : Int) then (some (a0.extract ((wrap64 ((a1.size : Int) + 1)) : Int).toNat (t277 : Int).toNat, a0.extract ((wrap64 (t277 + 1)) : Int).toNat a0.size, true)) else (none)) else (none)) else (none)) else (none)) else (some ((⟨#[]⟩ : ByteArray), a0, false))) else (none)) else (none)) else (none)))
theorem r7_line.mono : ∀ a0 a1 k, LeO (r7_line.f k a0 a1) (r7_line.f (k + 1) a0 a1) := by
 intro a0 a1 k
 unfold r7_line.f
 repeat' with_reducible first | exact r7_index.mono _ _ _ | exact LeO.refl _ | exact LeO.none _ | refine LeO.ite ?_ ?_ | refine LeO.bind ?_ (fun _ => ?_)
set_option maxHeartbeats 8000000 in
set_option maxRecDepth 100000 in
theorem r7_line.calls (k : Nat) (a0 : ByteArray) (a1 : ByteArray) (r1 : ByteArray) (r2 : ByteArray) (r3 : Bool) (w : World) (h : r7_line.f k a0 a1 = some (r1, r2, r3)) :
 Calls Tryd.prog 24 #[.string a0, .string a1] w fun e w' => e = .returned (.tuple #[.string r1, .string r2, .bool r3]) ∧ Drawn0 w w' := by
 have H : ((r7_index.f k a0 10).bind fun t277 => (if t277 < (wrap64 ((a1.size : Int) + 1)) then (some ((⟨#[]⟩ : ByteArray), a0, false)) else (if 0 ≤ (wrap64 ((a1.size : Int) + 1)) then (if (wrap64 ((a1.size : Int) + 1)) ≤ (a0.size : Int) then (if a1.size + 1 ≤ 9223372036854775807 then (if (a0.extract 0 ((wrap64 ((a1.size : Int) + 1)) : Int).toNat).toList = (a1 ++ (⟨#[32]⟩ : ByteArray)).toList then (if (wrap64 ((a1.size : Int) + 1)) ≤ t277 then (if t277 ≤ (a0.size : Int) then (if 0 ≤ (wrap64 (t277 + 1)) then (if (wrap64 (t277 + 1)) ≤ (a0.size : Int) then (some (a0.extract ((wrap64 ((a1.size : Int) + 1)) : Int).toNat (t277 : Int).toNat, a0.extract ((wrap64 (t277 + 1)) : Int).toNat a0.size, true)) else (none)) else (none)) else (none)) else (none)) else (some ((⟨#[]⟩ : ByteArray), a0, false))) else (none)) else (none)) else (none)))) = some (r1, r2, r3) := h
 clear h
 replace H := Option.bind_eq_some_iff.mp H
 obtain ⟨t277, A30, H⟩ := H
 try dsimp only at H
 have A3 := Aside0.mk A30
 clear A30
 by_cases c4 : t277 < (wrap64 ((a1.size : Int) + 1))
 · rw [if_pos c4] at H
   have c4b0 : decide (t277 < (wrap64 ((a1.size : Int) + 1))) = true := decide_eq_true c4
   clear c4
   simp only [Option.some.injEq, Prod.mk.injEq] at H
   obtain ⟨rfl, rfl, rfl⟩ := H
   go_enter Tryd.func24, Tryd.ntmps24
   go_wp2_with (first | (go_at_call 43; (with_reducible refine (r7_index.calls k a0 10 t277 _ A3.out).mono ?_); rintro e w' ⟨rfl, ⟨nd, rfl⟩⟩; (try exact wz_)))
   repeat (go_quiet (first | (go_at_call 43; (with_reducible refine (r7_index.calls k a0 10 t277 _ A3.out).mono ?_); rintro e w' ⟨rfl, ⟨nd, rfl⟩⟩; (try exact wz_))); try go_wp2_with (first | (go_at_call 43; (with_reducible refine (r7_index.calls k a0 10 t277 _ A3.out).mono ?_); rintro e w' ⟨rfl, ⟨nd, rfl⟩⟩; (try exact wz_))))
   go_ret3
   exact ⟨ez_, dz_⟩
 ·
  rw [if_neg c4] at H
  have c4b0 : decide (t277 < (wrap64 ((a1.size : Int) + 1))) = false := decide_eq_false c4
  clear c4
  obtain ⟨ji5, hji5⟩ : ∃ j_ : Int, (wrap64 ((a1.size : Int) + 1)) = j_ := ⟨_, rfl⟩
  replace H : (if 0 ≤ (ji5) then (if (ji5) ≤ (a0.size : Int) then (if a1.size + 1 ≤ 9223372036854775807 then (if (a0.extract 0 ((ji5) : Int).toNat).toList = (a1 ++ (⟨#[32]⟩ : ByteArray)).toList then (if (ji5) ≤ t277 then (if t277 ≤ (a0.size : Int) then (if 0 ≤ (wrap64 (t277 + 1)) then (if (wrap64 (t277 + 1)) ≤ (a0.size : Int) then (some (a0.extract ((ji5) : Int).toNat (t277 : Int).toNat, a0.extract ((wrap64 (t277 + 1)) : Int).toNat a0.size, true)) else (none)) else (none)) else (none)) else (none)) else (some ((⟨#[]⟩ : ByteArray), a0, false))) else (none)) else (none)) else (none)) = some (r1, r2, r3) := by first | (rw [hji5] at H; exact H) | (simp only [hji5] at H ⊢; exact H)
  (try rw [hji5] at c4b0)
  (try rw [hji5] at A3)
  have hji5w : (IntKind.i64.wrap ((a1.size : Int) + 1)) = ji5 := (i64_w _).trans hji5
  by_cases c6 : 0 ≤ (ji5)
  ·
   rw [if_pos c6] at H
   have c6b0 := eq_true c6
   have c6b1 : decide (0 ≤ (ji5)) = true := decide_eq_true c6
   clear c6
   by_cases c7 : (ji5) ≤ (a0.size : Int)
   ·
    rw [if_pos c7] at H
    have c7b0 := eq_true c7
    have c7b1 : decide ((ji5) ≤ (a0.size : Int)) = true := decide_eq_true c7
    clear c7
    by_cases c8 : a1.size + 1 ≤ 9223372036854775807
    ·
     rw [if_pos c8] at H
     have c8b0 := eq_true c8
     have c8b1 : decide (a1.size + 1 ≤ 9223372036854775807) = true := decide_eq_true c8
     try have c8b2 : (9223372036854775807 < a1.size + 1) = False := eq_false (Nat.not_lt.2 c8)
     by_cases c9 : (a0.extract 0 ((ji5) : Int).toNat).toList = (a1 ++ (⟨#[32]⟩ : ByteArray)).toList
     ·
      rw [if_pos c9] at H
      have c9b0 : ((a0.extract 0 ((ji5) : Int).toNat).toList == (a1 ++ (⟨#[32]⟩ : ByteArray)).toList) = true := beq_iff_eq.mpr c9
      have c9b1 : ((a0.extract 0 ((ji5) : Int).toNat).toList != (a1 ++ (⟨#[32]⟩ : ByteArray)).toList) = false := bne_eq_false_iff_eq.mpr c9
      clear c9
      have c10b0 := eq_true (of_decide_eq_true az_ : 0 ≤ (ji5))
      by_cases c11 : (ji5) ≤ t277
      ·
       rw [if_pos c11] at H
       have c11b0 := eq_true c11
       have c11b1 : decide ((ji5) ≤ t277) = true := decide_eq_true c11
       clear c11
       by_cases c12 : t277 ≤ (a0.size : Int)
       ·
        rw [if_pos c12] at H
        have c12b0 := eq_true c12
        have c12b1 : decide (t277 ≤ (a0.size : Int)) = true := decide_eq_true c12
        clear c12
        obtain ⟨ji13, hji13⟩ : ∃ j_ : Int, (wrap64 (t277 + 1)) = j_ := ⟨_, rfl⟩
        replace H : (if 0 ≤ (ji13) then (if (ji13) ≤ (a0.size : Int) then (some (a0.extract ((ji5) : Int).toNat (t277 : Int).toNat, a0.extract ((ji13) : Int).toNat a0.size, true)) else (none)) else (none)) = some (r1, r2, r3) := by first | (rw [hji13] at H; exact H) | (simp only [hji13] at H ⊢; exact H)
        (try rw [hji13] at A3)
        have hji13w : (IntKind.i64.wrap (t277 + 1)) = ji13 := (i64_w _).trans hji13
        by_cases c14 : 0 ≤ (ji13)
        ·
         rw [if_pos c14] at H
         have c14b0 := eq_true c14
         have c14b1 : decide (0 ≤ (ji13)) = true := decide_eq_true c14
         clear c14
         by_cases c15 : (ji13) ≤ (a0.size : Int)
         · rw [if_pos c15] at H
           have c15b0 := eq_true c15
           have c15b1 : decide ((ji13) ≤ (a0.size : Int)) = true := decide_eq_true c15
           clear c15
           simp only [Option.some.injEq, Prod.mk.injEq] at H
           obtain ⟨rfl, rfl, rfl⟩ := H
           go_enter Tryd.func24, Tryd.ntmps24
           go_wp2_with (first | (go_at_call 43; (with_reducible refine (r7_index.calls k a0 10 t277 _ A3.out).mono ?_); rintro e w' ⟨rfl, ⟨nd, rfl⟩⟩; (try exact wz_)))
           repeat (go_quiet (first | (go_at_call 43; (with_reducible refine (r7_index.calls k a0 10 t277 _ A3.out).mono ?_); rintro e w' ⟨rfl, ⟨nd, rfl⟩⟩; (try exact wz_))); try go_wp2_with (first | (go_at_call 43; (with_reducible refine (r7_index.calls k a0 10 t277 _ A3.out).mono ?_); rintro e w' ⟨rfl, ⟨nd, rfl⟩⟩; (try exact wz_))))
           go_ret3
           exact ⟨by first | rfl | (simp; done) | (simp only [← hji5, ← hji13] <;> (first | rfl | simp)) | (simp [*]; done), dz_⟩
         · rw [if_neg c15] at H
           exact absurd H (by simp)
        · rw [if_neg c14] at H
          exact absurd H (by simp)
       · rw [if_neg c12] at H
         exact absurd H (by simp)
      · rw [if_neg c11] at H
        exact absurd H (by simp)
     · rw [if_neg c9] at H
       have c9b0 : ((a0.extract 0 ((ji5) : Int).toNat).toList == (a1 ++ (⟨#[32]⟩ : ByteArray)).toList) = false := beq_eq_false_iff_ne.mpr c9
       have c9b1 : ((a0.extract 0 ((ji5) : Int).toNat).toList != (a1 ++ (⟨#[32]⟩ : ByteArray)).toList) = true := bne_iff_ne.mpr c9
       simp only [Option.some.injEq, Prod.mk.injEq] at H
       obtain ⟨rfl, rfl, rfl⟩ := H
       go_enter Tryd.func24, Tryd.ntmps24
       go_wp2_with (first | (go_at_call 43; (with_reducible refine (r7_index.calls k a0 10 t277 _ A3.out).mono ?_); rintro e w' ⟨rfl, ⟨nd, rfl⟩⟩; (try exact wz_)))
       repeat (go_quiet (first | (go_at_call 43; (with_reducible refine (r7_index.calls k a0 10 t277 _ A3.out).mono ?_); rintro e w' ⟨rfl, ⟨nd, rfl⟩⟩; (try exact wz_))); try go_wp2_with (first | (go_at_call 43; (with_reducible refine (r7_index.calls k a0 10 t277 _ A3.out).mono ?_); rintro e w' ⟨rfl, ⟨nd, rfl⟩⟩; (try exact wz_))))
       go_ret3
       exact ⟨by first | rfl | (simp; done) | (simp only [← hji5] <;> (first | rfl | simp)) | (simp [*]; done), dz_⟩
    · rw [if_neg c8] at H
      exact absurd H (by simp)
   · rw [if_neg c7] at H
     exact absurd H (by simp)
  · rw [if_neg c6] at H
    exact absurd H (by simp)

/-! ### r2_value: function 72 -/
def r2_value.j0 : Nat → Int → Bool → Option (Int)
 | 0, _, _ => none
 | k + 1, x0, x8 => if x8 = true then (some (wrap64 ((wrap64 (x0)) - 48))) else (if x0 ≥ 97 then (if x0 ≤ 102 then (some (wrap64 ((wrap64 (x0)) - 87))) else (some 16)) else (some 16))
def r2_value.f (k : Nat) (a0 : Int) : Option (Int) := if a0 ≥ 48 then (r2_value.j0 k a0 (decide (a0 ≤ 57))) else (r2_value.j0 k a0 false)
theorem r2_value.mono_l : ∀ k, (∀ y0 y1, LeO (r2_value.j0 k y0 y1) (r2_value.j0 (k + 1) y0 y1))
 | 0 => fun _ _ r h => by simp [r2_value.j0] at h
 | k + 1 => by
  have ih0 := r2_value.mono_l k
  · intro y0 y1
    unfold r2_value.j0
    repeat' with_reducible first | exact ih0 _ _ | exact LeO.refl _ | exact LeO.none _ | refine LeO.ite ?_ ?_ | refine LeO.bind ?_ (fun _ => ?_)
theorem r2_value.mono : ∀ a0 k, LeO (r2_value.f k a0) (r2_value.f (k + 1) a0) := by
 intro a0 k
 have ih0 := r2_value.mono_l k
 unfold r2_value.f
 repeat' with_reducible first | exact ih0 _ _ | exact LeO.refl _ | exact LeO.none _ | refine LeO.ite ?_ ?_ | refine LeO.bind ?_ (fun _ => ?_)
set_option maxHeartbeats 8000000 in
set_option maxRecDepth 100000 in
theorem r2_value.calls (k : Nat) (a0 : Int) (r : Int) (w : World) (h : r2_value.f k a0 = some r) :
 Calls Tryd.prog 72 #[.int .u8 a0] w fun e w' => e = .returned (.int .i64 r) ∧ Drawn0 w w' := by
 have H : (if a0 ≥ 48 then (r2_value.j0 k a0 (decide (a0 ≤ 57))) else (r2_value.j0 k a0 false)) = some r := h
 clear h
 have HC2 := Aside0.mk H
 clear H
 go_enter Tryd.func72, Tryd.ntmps72
 go_upto_region 1 with (fail)
 go_cut [8] (fun v8 wc => ∃ (kq : Nat) (x8_1 : Bool), v8 = .bool x8_1 ∧ Aside0 (r2_value.j0 kq a0 x8_1 = some r) ∧ Aside0 (kq ≤ k) ∧ Drawn0 w wc)
 case first =>
  have H := HC2.out
  clear HC2
  by_cases c3 : a0 ≥ 48
  · rw [if_pos c3] at H
    have c3b0 : decide (48 ≤ a0) = true := decide_eq_true c3
    clear c3
    (first | rw [c3b0] | (simp only [i64_w, i32_w]; rw [c3b0]) | skip)
    have H' := Aside0.mk H
    clear H
    go_wp2
    go_meet
    case rel => exact ⟨_, (decide (a0 ≤ 57)), ez_, H', ⟨by first | omega | exact Nat.le_refl _⟩, dz_⟩
  · rw [if_neg c3] at H
    have c3b0 : decide (48 ≤ a0) = false := decide_eq_false c3
    clear c3
    (first | rw [c3b0] | (simp only [i64_w, i32_w]; rw [c3b0]) | skip)
    have H' := Aside0.mk H
    clear H
    go_wp2
    go_meet
    case rel => exact ⟨_, (false), ez_, H', ⟨by first | omega | exact Nat.le_refl _⟩, dz_⟩
 case rest =>
  clear HC2
  try clear p2
  try clear c3
  try clear c3b0
  obtain ⟨kq, x8_1, rfl, HA, HJ1, ⟨mc1, rfl⟩⟩ := hcut
  cases kq with
  | zero => exact absurd HA.out (by simp [r2_value.j0])
  | succ kj1 =>
   have H := HA.out
   clear HA
   simp only [r2_value.j0] at H
   by_cases c4 : x8_1 = true
   · subst c4
     have H1 := H
     rw [if_pos rfl] at H1
     clear H
     have H := H1
     clear H1
     obtain rfl := Option.some.inj H
     go_wp2
     go_ret
     exact ⟨ez_, dz_⟩
   ·
    replace c4 := Bool.eq_false_iff.mpr c4
    subst c4
    have H1 := H
    rw [if_neg (show ¬ (false = true) by decide)] at H1
    clear H
    have H := H1
    clear H1
    by_cases c5 : a0 ≥ 97
    ·
     rw [if_pos c5] at H
     have c5b0 : decide (97 ≤ a0) = true := decide_eq_true c5
     clear c5
     by_cases c6 : a0 ≤ 102
     · rw [if_pos c6] at H
       have c6b0 : decide (a0 ≤ 102) = true := decide_eq_true c6
       clear c6
       obtain rfl := Option.some.inj H
       go_wp2
       go_ret
       exact ⟨ez_, dz_⟩
     · rw [if_neg c6] at H
       have c6b0 : decide (a0 ≤ 102) = false := decide_eq_false c6
       clear c6
       obtain rfl := Option.some.inj H
       go_wp2
       go_ret
       exact ⟨ez_, dz_⟩
    · rw [if_neg c5] at H
      have c5b0 : decide (97 ≤ a0) = false := decide_eq_false c5
      clear c5
      obtain rfl := Option.some.inj H
      go_wp2
      go_ret
      exact ⟨ez_, dz_⟩

end Go.Proofs.YtnapcfpecpgdbaaDoor.M
