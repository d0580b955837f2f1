/- The program's functions as plain functions, and that each call comes to what these tell; written by a program of this session, some contracts by hand. Conditions: none. -/
import Derived.Test.YtnapcfpecpgdbaaDoorMx0
import Derived.Test.YtnapcfpecpgdbaaDoorMx8
import Derived.Test.YtnapcfpecpgdbaaDoorMx22
namespace Go.Proofs.YtnapcfpecpgdbaaDoor.M
open Go.RowKit Go.Proofs.YtnapcfpecpgdbaaDoorW.PrintWords Go.Proofs.YtnapcfpecpgdbaaDoorW.PrintLast Go.Proofs.YtnapcfpecpgdbaaDoorW.PrintMore
attribute [local go_sem] max2_int min2_int max_two min_two max_three min_three max_four min_four   -- for this text's walks alone
set_option linter.unusedVariables false
set_option linter.unusedSimpArgs false

/-! ### object_Raw: function 27 (given by hand) -/
/-- The words of kinds. -/
def object_Raw.words : List ByteArray := [⟨#[]⟩, ⟨#[98, 108, 111, 98]⟩, ⟨#[116, 114, 101, 101]⟩, ⟨#[99, 111, 109, 109, 105, 116]⟩, ⟨#[116, 97, 103]⟩]
def object_Raw.f (k : Nat) (a0 : Int) (a1 : ByteArray) : Option (ByteArray × Int) := if a0 < 1 then some (⟨#[]⟩, 70) else if a0 > 4 then some (⟨#[]⟩, 70) else if (a1.size : Int) > 262144 then some (⟨#[]⟩, 3) else (code_Dec.f k (IntKind.u64.wrap (a1.size : Int))).bind fun d => if d.size ≤ 1000 then some (rdOf ByteArray.empty object_Raw.words a0 ++ ⟨#[32]⟩ ++ d ++ ⟨#[0]⟩ ++ a1, 0) else none
theorem object_Raw.mono : ∀ a0 a1 k, LeO (object_Raw.f k a0 a1) (object_Raw.f (k + 1) a0 a1) := by
 intro a0 a1 k
 unfold object_Raw.f
 refine LeO.ite (LeO.refl _) (LeO.ite (LeO.refl _) (LeO.ite (LeO.refl _) (LeO.bind (code_Dec.mono _ _) (fun _ => LeO.refl _))))
theorem object_Raw.kinds : object_kinds.f = some object_Raw.words := rfl
theorem object_Raw.word_size (a0 : Int) : (rdOf ByteArray.empty object_Raw.words a0).size ≤ 6 := by
 unfold rdOf
 rcases h : a0.toNat with _ | _ | _ | _ | _ | n <;> simp [object_Raw.words, h, ByteArray.size]
set_option maxHeartbeats 4000000 in
set_option maxRecDepth 100000 in
theorem object_Raw.calls (k : Nat) (a0 : Int) (a1 : ByteArray) (r1 : ByteArray) (r2 : Int) (w : World) (h : object_Raw.f k a0 a1 = some (r1, r2)) :
 Calls Tryd.prog 27 #[.int .i64 a0, .string a1] w fun e w' => e = .returned (.tuple #[.string r1, .int .i64 r2]) ∧ Below w.heap.size w w' := by
 unfold object_Raw.f at h
 go_enter Tryd.func27, Tryd.ntmps27
 by_cases c1 : a0 < 1
 · rw [if_pos c1] at h
   have h' := Option.some.inj h
   simp only [Prod.mk.injEq] at h'
   obtain ⟨rfl, rfl⟩ := h'
   have c1b : decide (a0 < 1) = true := decide_eq_true c1
   go_wp2_with fail
   go_ret2
   exact ⟨rfl, Below.refl _ _⟩
 ·
  rw [if_neg c1] at h
  have c1b : decide (a0 < 1) = false := decide_eq_false c1
  by_cases c4 : a0 > 4
  · rw [if_pos c4] at h
    have h' := Option.some.inj h
    simp only [Prod.mk.injEq] at h'
    obtain ⟨rfl, rfl⟩ := h'
    have c4b : decide (4 < a0) = true := decide_eq_true c4
    go_wp2_with fail
    go_ret2
    exact ⟨rfl, Below.refl _ _⟩
  ·
   rw [if_neg c4] at h
   have c4b : decide (4 < a0) = false := decide_eq_false c4
   by_cases c5 : (a1.size : Int) > 262144
   · rw [if_pos c5] at h
     have h' := Option.some.inj h
     simp only [Prod.mk.injEq] at h'
     obtain ⟨rfl, rfl⟩ := h'
     have c5b : decide (262144 < (a1.size : Int)) = true := decide_eq_true c5
     go_wp2_with fail
     go_ret2
     exact ⟨rfl, Below.refl _ _⟩
   ·
    rw [if_neg c5] at h
    obtain ⟨d, hd, h⟩ := Option.bind_eq_some_iff.mp h
    have HD := Aside0.mk hd
    by_cases c6 : d.size ≤ 1000
    ·
     rw [if_pos c6] at h
     have h' := Option.some.inj h
     simp only [Prod.mk.injEq] at h'
     obtain ⟨rfl, rfl⟩ := h'
     clear h hd
     have c5b : decide (262144 < (a1.size : Int)) = false := decide_eq_false c5
     have c5n : a1.size ≤ 262144 := by omega
     have p0 : 0 ≤ a0 := by omega
     have q0 : a0 < (object_Raw.words.length : Int) := by simp [object_Raw.words]; omega
     have hw6 := object_Raw.word_size a0
     go_upto_region 5 with (fail)
     clear c1 c4 c5 c1b c4b c5b
     generalize hW : rdOf ByteArray.empty object_Raw.words a0 = W0 at *
     have HW := Aside0.mk hW
     clear hW h
     have s1 : (9223372036854775807 < W0.size + 1) = False := eq_false (by omega)
     have s2 : (9223372036854775807 < W0.size + 1 + d.size) = False := eq_false (by omega)
     have s3 : (9223372036854775807 < W0.size + 1 + d.size + 1) = False := eq_false (by omega)
     have s4 : (9223372036854775807 < W0.size + 1 + d.size + 1 + a1.size) = False := eq_false (by omega)
     go_cut [4, 5] (fun v4 v5 wc => v4 = .string (W0 ++ ⟨#[32]⟩ ++ d ++ ⟨#[0]⟩ ++ a1) ∧ v5 = .int .i64 0 ∧ Aside0 (Below w.heap.size w wc))
     case first J1 K1 hJ1 hK1 =>
      go_region_law (first | (go_simp; go_at_call 42; go_must (refine (object_kinds.calls object_Raw.words _ object_Raw.kinds).mono ?_; rintro e w1 ⟨v1, rfl, ho, hb⟩; have HB := Aside0.mk hb; have HO := Aside0.mk ho; obtain ⟨A1, c1, rfl⟩ := Kd.R_slice ho; obtain ⟨ad, e1, hx⟩ := Kd.at_string (Kd.R_reads' HO.out).2.2 a0 p0 q0; cases e1; rw [HW.out] at hx; clear hb ho)) | (go_simp; go_at_call 34; go_must (refine (code_Dec.calls k (IntKind.u64.wrap (a1.size : Int)) d _ HD.out).mono ?_; rintro e w2 ⟨rfl, ⟨nd, rfl⟩⟩)))
      all_goals (refine hK1 _ _ ?_; go_meet; (case rel => exact ⟨rfl, rfl, ⟨pw_below_drewN ((pw_below_drewN (Below.refl w.heap.size w) 1).trans HB.out) nd⟩⟩))
     case rest =>
      obtain ⟨rfl, rfl, HB⟩ := hcut
      go_wp2_with fail
      go_ret2
      rw [HW.out]
      exact ⟨rfl, HB.out⟩
    · rw [if_neg c6] at h
      cases h


/-! ### bits_RotateLeft32: function 99 -/
def bits_RotateLeft32.f (a0 : Int) (a1 : Int) : Option (Int) := if 0 ≤ (Go.bits .and .u64 (IntKind.u64.wrap (a1)) 31) then (if 0 ≤ (IntKind.u64.wrap (32 - (Go.bits .and .u64 (IntKind.u64.wrap (a1)) 31))) then (some (Go.bits .or .u32 (shl .u32 a0 (Go.bits .and .u64 (IntKind.u64.wrap (a1)) 31)) (shr .u32 a0 (IntKind.u64.wrap (32 - (Go.bits .and .u64 (IntKind.u64.wrap (a1)) 31)))))) else (none)) else (none)
set_option maxHeartbeats 8000000 in
set_option maxRecDepth 100000 in
theorem bits_RotateLeft32.calls (a0 : Int) (a1 : Int) (r : Int) (w : World) (h : bits_RotateLeft32.f a0 a1 = some r) :
 Calls Tryd.prog 99 #[.int .u32 a0, .int .i64 a1] w fun e w' => e = .returned (.int .u32 r) ∧ Drawn0 w w' := by
 have H : (if 0 ≤ (Go.bits .and .u64 (IntKind.u64.wrap (a1)) 31) then (if 0 ≤ (IntKind.u64.wrap (32 - (Go.bits .and .u64 (IntKind.u64.wrap (a1)) 31))) then (some (Go.bits .or .u32 (shl .u32 a0 (Go.bits .and .u64 (IntKind.u64.wrap (a1)) 31)) (shr .u32 a0 (IntKind.u64.wrap (32 - (Go.bits .and .u64 (IntKind.u64.wrap (a1)) 31)))))) else (none)) else (none)) = some r := h
 clear h
 obtain ⟨ji3, hji3⟩ : ∃ j_ : Int, (Go.bits .and .u64 (IntKind.u64.wrap (a1)) 31) = j_ := ⟨_, rfl⟩
 replace H : (if 0 ≤ (ji3) then (if 0 ≤ (IntKind.u64.wrap (32 - (ji3))) then (some (Go.bits .or .u32 (shl .u32 a0 (ji3)) (shr .u32 a0 (IntKind.u64.wrap (32 - (ji3)))))) else (none)) else (none)) = some r := by first | (rw [hji3] at H; exact H) | (simp only [hji3] at H ⊢; exact H)
 by_cases c4 : 0 ≤ (ji3)
 ·
  rw [if_pos c4] at H
  have c4b0 := eq_true c4
  have c4b1 : decide (0 ≤ (ji3)) = true := decide_eq_true c4
  clear c4
  obtain ⟨ji5, hji5⟩ : ∃ j_ : Int, (shl .u32 a0 (ji3)) = j_ := ⟨_, rfl⟩
  replace H : (if 0 ≤ (IntKind.u64.wrap (32 - (ji3))) then (some (Go.bits .or .u32 (ji5) (shr .u32 a0 (IntKind.u64.wrap (32 - (ji3)))))) else (none)) = some r := by first | (rw [hji5] at H; exact H) | (simp only [hji5] at H ⊢; exact H)
  have hji5_ : (IntKind.u32.wrap (a0 * 2 ^ min (ji3).toNat 32)) = ji5 := hji5
  have hji5z : (ji3) ≤ 32 → (IntKind.u32.wrap (a0 * 2 ^ (ji3).toNat)) = ji5 := shl_small hji5
  obtain ⟨ji6, hji6⟩ : ∃ j_ : Int, (IntKind.u64.wrap (32 - (ji3))) = j_ := ⟨_, rfl⟩
  replace H : (if 0 ≤ (ji6) then (some (Go.bits .or .u32 (ji5) (shr .u32 a0 (ji6)))) else (none)) = some r := by first | (rw [hji6] at H; exact H) | (simp only [hji6] at H ⊢; exact H)
  by_cases c7 : 0 ≤ (ji6)
  · rw [if_pos c7] at H
    have c7b0 := eq_true c7
    have c7b1 : decide (0 ≤ (ji6)) = true := decide_eq_true c7
    clear c7
    obtain ⟨ji8, hji8⟩ : ∃ j_ : Int, (shr .u32 a0 (ji6)) = j_ := ⟨_, rfl⟩
    replace H : (some (Go.bits .or .u32 (ji5) (ji8))) = some r := by first | (rw [hji8] at H; exact H) | (simp only [hji8] at H ⊢; exact H)
    have hji8_ : (a0 / 2 ^ min (ji6).toNat 32) = ji8 := hji8
    have hji8z : (ji6) ≤ 32 → (a0 / 2 ^ (ji6).toNat) = ji8 := shr_small hji8
    obtain rfl := Option.some.inj H
    go_enter Tryd.func99, Tryd.ntmps99
    go_wp2
    go_ret
    exact ⟨by first | rfl | (simp; done) | (simp only [← hji3, ← hji5, ← hji6, ← hji8] <;> (first | rfl | simp)) | (simp [*]; done), by repeat (first | exact Drawn0.refl _ | apply Drawn0.step)⟩
  · rw [if_neg c7] at H
    exact absurd H (by simp)
 · rw [if_neg c4] at H
   exact absurd H (by simp)

end Go.Proofs.YtnapcfpecpgdbaaDoor.M
