/- The program's functions as plain functions, and that each call comes to what these tell; written by a program of this session, some contracts by hand. Conditions: none. -/
import Derived.Test.YtnapcfpecpgdbaaDoorMx0
import Derived.Test.YtnapcfpecpgdbaaDoorMx15
namespace Go.Proofs.YtnapcfpecpgdbaaDoor.M
open Go.RowKit Go.Proofs.YtnapcfpecpgdbaaDoorW.PrintWords Go.Proofs.YtnapcfpecpgdbaaDoorW.PrintLast Go.Proofs.YtnapcfpecpgdbaaDoorW.PrintMore
attribute [local go_sem] max2_int min2_int max_two min_two max_three min_three max_four min_four   -- for this text's walks alone
set_option linter.unusedVariables false
set_option linter.unusedSimpArgs false

/-! ### r5_Words: function 55 -/
def r5_Words.l0 : Nat → ByteArray → Int → Int → Option (Int × Int)
 | 0, _, _, _ => none
 | k + 1, x0, x4, x5 => if (x0.size : Int) > 0 then ((r5_first.f k x0).bind fun bt267 => (if bt267.1 < 0 then (if 0 ≤ bt267.2 then (if bt267.2 ≤ (x0.size : Int) then (r5_Words.l0 k (x0.extract (bt267.2 : Int).toNat x0.size) x4 (wrap64 (x5 + 1))) else (none)) else (none)) else (if 0 ≤ bt267.2 then (if bt267.2 ≤ (x0.size : Int) then (r5_Words.l0 k (x0.extract (bt267.2 : Int).toNat x0.size) (wrap64 (x4 + 1)) x5) else (none)) else (none)))) else (some (x4, x5))
def r5_Words.f (k : Nat) (a0 : ByteArray) : Option (Int × Int) := r5_Words.l0 k a0 0 0
theorem r5_Words.mono_l : ∀ k, (∀ y0 y1 y2, LeO (r5_Words.l0 k y0 y1 y2) (r5_Words.l0 (k + 1) y0 y1 y2))
 | 0 => fun _ _ _ r h => by simp [r5_Words.l0] at h
 | k + 1 => by
  have ih0 := r5_Words.mono_l k
  ·
   intro y0 y1 y2
   unfold r5_Words.l0
   repeat' with_reducible first | exact ih0 _ _ _ | exact r5_first.mono _ _ | exact LeO.refl _ | exact LeO.none _ | refine LeO.ite ?_ ?_ | refine LeO.bind ?_ (fun _ => ?_)
theorem r5_Words.mono : ∀ a0 k, LeO (r5_Words.f k a0) (r5_Words.f (k + 1) a0) := by
 intro a0 k
 have ih0 := r5_Words.mono_l k
 unfold r5_Words.f
 repeat' with_reducible first | exact ih0 _ _ _ | exact r5_first.mono _ _ | exact LeO.refl _ | exact LeO.none _ | refine LeO.ite ?_ ?_ | refine LeO.bind ?_ (fun _ => ?_)
set_option maxHeartbeats 8000000 in
set_option maxRecDepth 100000 in
theorem r5_Words.calls (k : Nat) (a0 : ByteArray) (r1 : Int) (r2 : Int) (w : World) (h : r5_Words.f k a0 = some (r1, r2)) :
 Calls Tryd.prog 55 #[.string a0] w fun e w' => e = .returned (.tuple #[.int .i64 r1, .int .i64 r2]) ∧ Drawn0 w w' := by
 have H : (r5_Words.l0 k a0 0 0) = some (r1, r2) := h
 clear h
 have H' := Aside0.mk H
 clear H
 go_enter Tryd.func55, Tryd.ntmps55
 go_wp2
 go_loopg [0, 4, 5] k (fun kq v0 v4 v5 w' => ∃ (x0_1 : ByteArray) (x4_1 : Int) (x5_1 : Int), v0 = .string x0_1 ∧ v4 = .int .i64 x4_1 ∧ v5 = .int .i64 x5_1 ∧ Aside0 (r5_Words.l0 kq x0_1 x4_1 x5_1 = some (r1, r2)) ∧ Aside0 (kq ≤ k) ∧ Drawn0 w w')
 case atStart => exact ⟨(a0), (0), (0), ez_, ez_, ez_, H', ⟨Nat.le_refl _⟩, dz_⟩
 case round =>
  clear H'
  obtain ⟨x0_1, x4_1, x5_1, rfl, rfl, rfl, HA, HK1, ⟨m1, rfl⟩⟩ := hrel
  cases gk with
  | zero => exact absurd HA.out (by simp [r5_Words.l0])
  | succ k1 =>
   have H := HA.out
   clear HA
   simp only [r5_Words.l0] at H
   by_cases c2 : (x0_1.size : Int) > 0
   ·
    rw [if_pos c2] at H
    have c2b0 : decide (0 < (x0_1.size : Int)) = true := decide_eq_true c2
    have c2b1 : decide (0 < x0_1.size) = true := decide_eq_true (by omega)
    clear c2
    replace H := Option.bind_eq_some_iff.mp H
    obtain ⟨⟨t267, t268⟩, A30, H⟩ := H
    try dsimp only at H
    have A3 := Aside0.mk A30
    clear A30
    by_cases c4 : t267 < 0
    ·
     rw [if_pos c4] at H
     have c4b0 : decide (t267 < 0) = true := decide_eq_true c4
     clear c4
     by_cases c5 : 0 ≤ t268
     ·
      rw [if_pos c5] at H
      have c5b0 := eq_true c5
      have c5b1 : decide (0 ≤ t268) = true := decide_eq_true c5
      clear c5
      by_cases c6 : t268 ≤ (x0_1.size : Int)
      · rw [if_pos c6] at H
        have c6b0 := eq_true c6
        have c6b1 : decide (t268 ≤ (x0_1.size : Int)) = true := decide_eq_true c6
        clear c6
        have H' := Aside0.mk H
        clear H
        go_wp2_with (first | ((with_reducible refine gate_callee (f := 76) rfl ?_); refine goesM_ (some 13) Tryd.func76 #[.string x0_1] ?_; (with_reducible refine (r5_first.calls k1 x0_1 t267 t268 _ A3.out).mono ?_); rintro e w' ⟨rfl, ⟨nd, rfl⟩⟩; refine ⟨_, rfl, ?_⟩))
        go_roundg k1
        case measure => have := HK1.out; omega
        case rel => exact ⟨(x0_1.extract (t268 : Int).toNat x0_1.size), (x4_1), (wrap64 (x5_1 + 1)), ez_, ez_, ez_, H', ⟨by have := HK1.out; omega⟩, dz_⟩
      · rw [if_neg c6] at H
        exact absurd H (by simp)
     · rw [if_neg c5] at H
       exact absurd H (by simp)
    ·
     rw [if_neg c4] at H
     have c4b0 : decide (t267 < 0) = false := decide_eq_false c4
     clear c4
     by_cases c7 : 0 ≤ t268
     ·
      rw [if_pos c7] at H
      have c7b0 := eq_true c7
      have c7b1 : decide (0 ≤ t268) = true := decide_eq_true c7
      clear c7
      by_cases c8 : t268 ≤ (x0_1.size : Int)
      · rw [if_pos c8] at H
        have c8b0 := eq_true c8
        have c8b1 : decide (t268 ≤ (x0_1.size : Int)) = true := decide_eq_true c8
        clear c8
        have H' := Aside0.mk H
        clear H
        go_wp2_with (first | ((with_reducible refine gate_callee (f := 76) rfl ?_); refine goesM_ (some 13) Tryd.func76 #[.string x0_1] ?_; (with_reducible refine (r5_first.calls k1 x0_1 t267 t268 _ A3.out).mono ?_); rintro e w' ⟨rfl, ⟨nd, rfl⟩⟩; refine ⟨_, rfl, ?_⟩))
        go_roundg k1
        case measure => have := HK1.out; omega
        case rel => exact ⟨(x0_1.extract (t268 : Int).toNat x0_1.size), (wrap64 (x4_1 + 1)), (x5_1), ez_, ez_, ez_, H', ⟨by have := HK1.out; omega⟩, dz_⟩
      · rw [if_neg c8] at H
        exact absurd H (by simp)
     · rw [if_neg c7] at H
       exact absurd H (by simp)
   · rw [if_neg c2] at H
     have c2b0 : decide (0 < (x0_1.size : Int)) = false := decide_eq_false c2
     have c2b1 : decide (0 < x0_1.size) = false := decide_eq_false (by omega)
     clear c2
     simp only [Option.some.injEq, Prod.mk.injEq] at H
     obtain ⟨rfl, rfl⟩ := H
     go_wp2
     go_ret2
     exact ⟨ez_, dz_⟩

/-! ### r7_text: function 32 -/
def r7_text.f (k : Nat) (a0 : ByteArray) : Option (Bool) := (r5_Words.f k a0).bind fun bt269 => (if (a0.size : Int) ≤ 4096 then (some (bt269.2 == 0)) else (some false))
theorem r7_text.mono : ∀ a0 k, LeO (r7_text.f k a0) (r7_text.f (k + 1) a0) := by
 intro a0 k
 unfold r7_text.f
 repeat' with_reducible first | exact r5_Words.mono _ _ | exact LeO.refl _ | exact LeO.none _ | refine LeO.ite ?_ ?_ | refine LeO.bind ?_ (fun _ => ?_)
set_option maxHeartbeats 8000000 in
set_option maxRecDepth 100000 in
theorem r7_text.calls (k : Nat) (a0 : ByteArray) (r : Bool) (w : World) (h : r7_text.f k a0 = some r) :
 Calls Tryd.prog 32 #[.string a0] w fun e w' => e = .returned (.bool r) ∧ Drawn0 w w' := by
 have H : ((r5_Words.f k a0).bind fun bt269 => (if (a0.size : Int) ≤ 4096 then (some (bt269.2 == 0)) else (some false))) = some r := h
 clear h
 replace H := Option.bind_eq_some_iff.mp H
 obtain ⟨⟨t269, t270⟩, A20, H⟩ := H
 try dsimp only at H
 have A2 := Aside0.mk A20
 clear A20
 by_cases c3 : (a0.size : Int) ≤ 4096
 · rw [if_pos c3] at H
   have c3b0 : decide ((a0.size : Int) ≤ 4096) = true := decide_eq_true c3
   have c3b1 : decide (a0.size ≤ 4096) = true := decide_eq_true (by omega)
   clear c3
   obtain rfl := Option.some.inj H
   go_enter Tryd.func32, Tryd.ntmps32
   go_wp2_with (first | ((with_reducible refine gate_callee (f := 55) rfl ?_); refine goesM_ (some 7) Tryd.func55 #[.string a0] ?_; (with_reducible refine (r5_Words.calls k a0 t269 t270 _ A2.out).mono ?_); rintro e w' ⟨rfl, ⟨nd, rfl⟩⟩; refine ⟨_, rfl, ?_⟩))
   go_ret
   exact ⟨ez_, dz_⟩
 · rw [if_neg c3] at H
   have c3b0 : decide ((a0.size : Int) ≤ 4096) = false := decide_eq_false c3
   have c3b1 : decide (a0.size ≤ 4096) = false := decide_eq_false (by omega)
   clear c3
   obtain rfl := Option.some.inj H
   go_enter Tryd.func32, Tryd.ntmps32
   go_wp2_with (first | ((with_reducible refine gate_callee (f := 55) rfl ?_); refine goesM_ (some 7) Tryd.func55 #[.string a0] ?_; (with_reducible refine (r5_Words.calls k a0 t269 t270 _ A2.out).mono ?_); rintro e w' ⟨rfl, ⟨nd, rfl⟩⟩; refine ⟨_, rfl, ?_⟩))
   go_ret
   exact ⟨ez_, dz_⟩

end Go.Proofs.YtnapcfpecpgdbaaDoor.M
