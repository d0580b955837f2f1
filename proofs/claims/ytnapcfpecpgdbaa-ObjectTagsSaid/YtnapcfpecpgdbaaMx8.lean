/- The program's functions as plain functions, and that each call comes to what these tell; written by a program of this session, some contracts by hand. Conditions: none. -/
import Derived.Test.YtnapcfpecpgdbaaMx0
import Derived.Test.YtnapcfpecpgdbaaMx3
import Derived.Test.YtnapcfpecpgdbaaMx5
import Derived.Test.YtnapcfpecpgdbaaMx7
namespace Go.Proofs.Ytnapcfpecpgdbaa.M
open Go.RowKit Go.Proofs.YtnapcfpecpgdbaaW.PrintWords Go.Proofs.YtnapcfpecpgdbaaW.PrintLast Go.Proofs.YtnapcfpecpgdbaaW.PrintMore
attribute [local go_sem] max2_int min2_int max_two min_two max_three min_three max_four min_four   -- for this text's walks alone
set_option linter.unusedVariables false
set_option linter.unusedSimpArgs false

/-! ### pollardref07_Raw: function 12 -/
def pollardref07_Raw.f (k : Nat) (a0 : Int) (a1 : ByteArray) : Option (ByteArray) := (pollardref07_kind.f a0).bind fun t137 => (if t137.size + 1 ≤ 9223372036854775807 then ((pollardref02_Dec.f k (IntKind.u64.wrap ((a1.size : Int)))).bind fun t138 => (if (t137 ++ (⟨#[32]⟩ : ByteArray)).size + t138.size ≤ 9223372036854775807 then (if ((t137 ++ (⟨#[32]⟩ : ByteArray)) ++ t138).size + 1 ≤ 9223372036854775807 then (if (((t137 ++ (⟨#[32]⟩ : ByteArray)) ++ t138) ++ (⟨#[0]⟩ : ByteArray)).size + a1.size ≤ 9223372036854775807 then (some ((((t137 ++ (⟨#[32]⟩ : ByteArray)) ++ t138) ++ (⟨#[0]⟩ : ByteArray)) ++ a1)) else (none)) else (none)) else (none))) else (none))
theorem pollardref07_Raw.mono : ∀ a0 a1 k, LeO (pollardref07_Raw.f k a0 a1) (pollardref07_Raw.f (k + 1) a0 a1) := by
 intro a0 a1 k
 unfold pollardref07_Raw.f
 repeat' first
  | (with_reducible exact pollardref02_Dec.mono _ _)
  | (with_reducible exact LeO.refl _)
  | (with_reducible exact LeO.none _)
  | (with_reducible refine LeO.ite ?_ ?_)
  | (with_reducible refine LeO.bind ?_ (fun _ => ?_))
  | exact pollardref02_Dec.mono _ _
  | exact LeO.none _
  | refine LeO.ite ?_ ?_
  | refine LeO.bind ?_ (fun _ => ?_)
set_option maxHeartbeats 8000000 in
set_option maxRecDepth 100000 in
theorem pollardref07_Raw.calls (k : Nat) (a0 : Int) (a1 : ByteArray) (r : ByteArray) (w : World) (h : pollardref07_Raw.f k a0 a1 = some r) :
 Calls Try.prog 12 #[.int .i64 a0, .string a1] w fun e w' => e = .returned (.string r) ∧ Below w.heap.size w w' := by
 have HB := Aside0.mk (Below.refl w.heap.size w)
 have H : ((pollardref07_kind.f a0).bind fun t137 => (if t137.size + 1 ≤ 9223372036854775807 then ((pollardref02_Dec.f k (IntKind.u64.wrap ((a1.size : Int)))).bind fun t138 => (if (t137 ++ (⟨#[32]⟩ : ByteArray)).size + t138.size ≤ 9223372036854775807 then (if ((t137 ++ (⟨#[32]⟩ : ByteArray)) ++ t138).size + 1 ≤ 9223372036854775807 then (if (((t137 ++ (⟨#[32]⟩ : ByteArray)) ++ t138) ++ (⟨#[0]⟩ : ByteArray)).size + a1.size ≤ 9223372036854775807 then (some ((((t137 ++ (⟨#[32]⟩ : ByteArray)) ++ t138) ++ (⟨#[0]⟩ : ByteArray)) ++ a1)) else (none)) else (none)) else (none))) else (none))) = some r := h
 clear h
 replace H := Option.bind_eq_some_iff.mp H
 obtain ⟨t137, A30, H⟩ := H
 replace H : (if t137.size + 1 ≤ 9223372036854775807 then ((pollardref02_Dec.f k (IntKind.u64.wrap ((a1.size : Int)))).bind fun t138 => (if (t137 ++ (⟨#[32]⟩ : ByteArray)).size + t138.size ≤ 9223372036854775807 then (if ((t137 ++ (⟨#[32]⟩ : ByteArray)) ++ t138).size + 1 ≤ 9223372036854775807 then (if (((t137 ++ (⟨#[32]⟩ : ByteArray)) ++ t138) ++ (⟨#[0]⟩ : ByteArray)).size + a1.size ≤ 9223372036854775807 then (some ((((t137 ++ (⟨#[32]⟩ : ByteArray)) ++ t138) ++ (⟨#[0]⟩ : ByteArray)) ++ a1)) else (none)) else (none)) else (none))) else (none)) = some r := H
 have A3 := Aside0.mk A30
 clear A30
 by_cases c4 : t137.size + 1 ≤ 9223372036854775807
 ·
  rw [if_pos c4] at H
  have c4b0 := eq_true c4
  have c4b1 : decide (t137.size + 1 ≤ 9223372036854775807) = true := decide_eq_true c4
  try have c4b2 : (9223372036854775807 < t137.size + 1) = False := eq_false (Nat.not_lt.2 c4)
  replace H := Option.bind_eq_some_iff.mp H
  obtain ⟨t138, A50, H⟩ := H
  replace H : (if (t137 ++ (⟨#[32]⟩ : ByteArray)).size + t138.size ≤ 9223372036854775807 then (if ((t137 ++ (⟨#[32]⟩ : ByteArray)) ++ t138).size + 1 ≤ 9223372036854775807 then (if (((t137 ++ (⟨#[32]⟩ : ByteArray)) ++ t138) ++ (⟨#[0]⟩ : ByteArray)).size + a1.size ≤ 9223372036854775807 then (some ((((t137 ++ (⟨#[32]⟩ : ByteArray)) ++ t138) ++ (⟨#[0]⟩ : ByteArray)) ++ a1)) else (none)) else (none)) else (none)) = some r := H
  have A5 := Aside0.mk A50
  clear A50
  by_cases c6 : (t137 ++ (⟨#[32]⟩ : ByteArray)).size + t138.size ≤ 9223372036854775807
  ·
   rw [if_pos c6] at H
   have c6b0 := eq_true c6
   have c6b1 : decide ((t137 ++ (⟨#[32]⟩ : ByteArray)).size + t138.size ≤ 9223372036854775807) = true := decide_eq_true c6
   try have c6b2 : (9223372036854775807 < (t137 ++ (⟨#[32]⟩ : ByteArray)).size + t138.size) = False := eq_false (Nat.not_lt.2 c6)
   try have c6b3 : (9223372036854775807 < t137.size + 1 + t138.size) = False := eq_false (by have h_ := c6; simp only [ByteArray.size_append] at h_; first | exact Nat.not_lt.2 h_ | exact Nat.not_lt.2 (by simpa using h_))
   by_cases c7 : ((t137 ++ (⟨#[32]⟩ : ByteArray)) ++ t138).size + 1 ≤ 9223372036854775807
   ·
    rw [if_pos c7] at H
    have c7b0 := eq_true c7
    have c7b1 : decide (((t137 ++ (⟨#[32]⟩ : ByteArray)) ++ t138).size + 1 ≤ 9223372036854775807) = true := decide_eq_true c7
    try have c7b2 : (9223372036854775807 < ((t137 ++ (⟨#[32]⟩ : ByteArray)) ++ t138).size + 1) = False := eq_false (Nat.not_lt.2 c7)
    try have c7b3 : (9223372036854775807 < t137.size + 1 + t138.size + 1) = False := eq_false (by have h_ := c7; simp only [ByteArray.size_append] at h_; first | exact Nat.not_lt.2 h_ | exact Nat.not_lt.2 (by simpa using h_))
    by_cases c8 : (((t137 ++ (⟨#[32]⟩ : ByteArray)) ++ t138) ++ (⟨#[0]⟩ : ByteArray)).size + a1.size ≤ 9223372036854775807
    · rw [if_pos c8] at H
      have c8b0 := eq_true c8
      have c8b1 : decide ((((t137 ++ (⟨#[32]⟩ : ByteArray)) ++ t138) ++ (⟨#[0]⟩ : ByteArray)).size + a1.size ≤ 9223372036854775807) = true := decide_eq_true c8
      try have c8b2 : (9223372036854775807 < (((t137 ++ (⟨#[32]⟩ : ByteArray)) ++ t138) ++ (⟨#[0]⟩ : ByteArray)).size + a1.size) = False := eq_false (Nat.not_lt.2 c8)
      try have c8b3 : (9223372036854775807 < t137.size + 1 + t138.size + 1 + a1.size) = False := eq_false (by have h_ := c8; simp only [ByteArray.size_append] at h_; first | exact Nat.not_lt.2 h_ | exact Nat.not_lt.2 (by simpa using h_))
      obtain rfl := Option.some.inj H
      go_enter Try.func12, Try.ntmps12
      go_wp2_with (first | ((with_reducible refine gate_callee (f := 27) rfl ?_); refine goesL_ (some 6) rfl rfl Try.func27 (by kernel_rfl) rfl #[.int .i64 a0] rfl (by (try simp only [List.map_toArray, List.map_cons, List.map_nil]); first | done | rfl | (simp only [List.length_drop, List.length_take]; rfl)) ?_; (with_reducible refine (pollardref07_kind.calls a0 t137 _ A3.out).mono ?_); rintro e w9 ⟨rfl, hb⟩; refine ⟨_, rfl, ?_⟩; have n0_ := Aside0.mk (below_step (by repeat (first | (with_reducible first | exact HB.out | apply below_alloc | apply pw_below_drewN | apply below_drew1) | exact HB.out)) hb); clear HB; have HB := n0_; clear n0_; (try clear hb); (try clear hb2); (try clear hk); (try clear hi)) | ((with_reducible refine gate_callee (f := 28) rfl ?_); refine goesL_ (some 11) rfl rfl Try.func28 (by kernel_rfl) rfl #[.int .u64 (IntKind.u64.wrap ((a1.size : Int)))] rfl (by (try simp only [List.map_toArray, List.map_cons, List.map_nil]); first | done | rfl | (simp only [IntKind.wrap_u64]; rw [Int.emod_eq_of_lt (by omega) (by omega)]; rfl) | (simp only [List.length_drop, List.length_take]; rfl)) ?_; (with_reducible refine (pollardref02_Dec.calls k (IntKind.u64.wrap ((a1.size : Int))) t138 _ A5.out).mono ?_); rintro e w10 ⟨rfl, hb⟩; refine ⟨_, rfl, ?_⟩; have n0_ := Aside0.mk (below_step (by repeat (first | (with_reducible first | exact HB.out | apply below_alloc | apply pw_below_drewN | apply below_drew1) | exact HB.out)) hb); clear HB; have HB := n0_; clear n0_; (try clear hb); (try clear hb2); (try clear hk); (try clear hi)))
      go_ret
      exact ⟨by first | rfl | (simp [errW_none, errW_some] <;> rfl) | (simp [*, errW_none, errW_some] <;> rfl), by repeat (first | (with_reducible first | exact HB.out | apply below_alloc | apply pw_below_drewN | apply below_drew1) | exact HB.out)⟩
    · rw [if_neg c8] at H
      exact absurd H (by simp)
   · rw [if_neg c7] at H
     exact absurd H (by simp)
  · rw [if_neg c6] at H
    exact absurd H (by simp)
 · rw [if_neg c4] at H
   exact absurd H (by simp)

/-! ### pollardlaw07_ObjectMost: function 4 -/
def pollardlaw07_ObjectMost.f (k : Nat) (a0 : Int) : Option (Bool) := if 0 ≤ (wrap64 (262142 + (Go.bits .and .i64 a0 3))) then (if (wrap64 (262142 + (Go.bits .and .i64 a0 3)) : Int).toNat ≤ 281474976710656 then ((some (List.replicate (wrap64 (262142 + (Go.bits .and .i64 a0 3)) : Int).toNat 0 : List Int)).bind fun y139 => ((object_Raw.f k 1 (strOfNums y139)).bind fun bt142 => ((pollardref07_Raw.f k 1 (strOfNums y139)).bind fun t144 => ((object_Open.f k t144).bind fun bt145 => (if (wrap64 (262142 + (Go.bits .and .i64 a0 3))) > 262144 then ((pollardlaw07_awake.f k).bind fun t148 => (if t148 = true then (if bt142.2 = 3 then (if bt142.1.toList = ([] : List UInt8) then (some (bt145.2.2 == 3)) else (none)) else (none)) else (none))) else ((pollardlaw07_awake.f k).bind fun t149 => (if t149 = true then (if bt142.2 = 0 then (if bt145.2.2 = 0 then ((pollardref07_Raw.f k 1 (strOfNums y139)).bind fun t150 => (some (bt142.1.toList == t150.toList))) else (none)) else (none)) else (none)))))))) else (none)) else (none)
theorem pollardlaw07_ObjectMost.mono : ∀ a0 k, LeO (pollardlaw07_ObjectMost.f k a0) (pollardlaw07_ObjectMost.f (k + 1) a0) := by
 intro a0 k
 unfold pollardlaw07_ObjectMost.f
 repeat' first
  | (with_reducible exact object_Open.mono _ _)
  | (with_reducible exact object_Raw.mono _ _ _)
  | (with_reducible exact pollardlaw07_awake.mono _)
  | (with_reducible exact pollardref07_Raw.mono _ _ _)
  | (with_reducible exact LeO.refl _)
  | (with_reducible exact LeO.none _)
  | (with_reducible refine LeO.ite ?_ ?_)
  | (with_reducible refine LeO.bind ?_ (fun _ => ?_))
  | exact object_Open.mono _ _
  | exact object_Raw.mono _ _ _
  | exact pollardlaw07_awake.mono _
  | exact pollardref07_Raw.mono _ _ _
  | exact LeO.none _
  | refine LeO.ite ?_ ?_
  | refine LeO.bind ?_ (fun _ => ?_)
set_option maxHeartbeats 8000000 in
set_option maxRecDepth 100000 in
theorem pollardlaw07_ObjectMost.calls (k : Nat) (a0 : Int) (r : Bool) (w : World) (h : pollardlaw07_ObjectMost.f k a0 = some r) :
 Calls Try.prog 4 #[.int .i64 a0] w fun e w' => e = .returned (.bool r) ∧ Below w.heap.size w w' := by
 have HB := Aside0.mk (Below.refl w.heap.size w)
 have H : (if 0 ≤ (wrap64 (262142 + (Go.bits .and .i64 a0 3))) then (if (wrap64 (262142 + (Go.bits .and .i64 a0 3)) : Int).toNat ≤ 281474976710656 then ((some (List.replicate (wrap64 (262142 + (Go.bits .and .i64 a0 3)) : Int).toNat 0 : List Int)).bind fun y139 => ((object_Raw.f k 1 (strOfNums y139)).bind fun bt142 => ((pollardref07_Raw.f k 1 (strOfNums y139)).bind fun t144 => ((object_Open.f k t144).bind fun bt145 => (if (wrap64 (262142 + (Go.bits .and .i64 a0 3))) > 262144 then ((pollardlaw07_awake.f k).bind fun t148 => (if t148 = true then (if bt142.2 = 3 then (if bt142.1.toList = ([] : List UInt8) then (some (bt145.2.2 == 3)) else (none)) else (none)) else (none))) else ((pollardlaw07_awake.f k).bind fun t149 => (if t149 = true then (if bt142.2 = 0 then (if bt145.2.2 = 0 then ((pollardref07_Raw.f k 1 (strOfNums y139)).bind fun t150 => (some (bt142.1.toList == t150.toList))) else (none)) else (none)) else (none)))))))) else (none)) else (none)) = some r := h
 clear h
 obtain ⟨ji2, hji2⟩ : ∃ j_ : Int, (wrap64 (262142 + (Go.bits .and .i64 a0 3))) = j_ := ⟨_, rfl⟩
 replace H : (if 0 ≤ (ji2) then (if (ji2 : Int).toNat ≤ 281474976710656 then ((some (List.replicate (ji2 : Int).toNat 0 : List Int)).bind fun y139 => ((object_Raw.f k 1 (strOfNums y139)).bind fun bt142 => ((pollardref07_Raw.f k 1 (strOfNums y139)).bind fun t144 => ((object_Open.f k t144).bind fun bt145 => (if (ji2) > 262144 then ((pollardlaw07_awake.f k).bind fun t148 => (if t148 = true then (if bt142.2 = 3 then (if bt142.1.toList = ([] : List UInt8) then (some (bt145.2.2 == 3)) else (none)) else (none)) else (none))) else ((pollardlaw07_awake.f k).bind fun t149 => (if t149 = true then (if bt142.2 = 0 then (if bt145.2.2 = 0 then ((pollardref07_Raw.f k 1 (strOfNums y139)).bind fun t150 => (some (bt142.1.toList == t150.toList))) else (none)) else (none)) else (none)))))))) else (none)) else (none)) = some r := by first | (rw [hji2] at H; exact H) | (simp only [hji2] at H ⊢; exact H)
 have hji2w : (IntKind.i64.wrap (262142 + (Go.bits .and .i64 a0 3))) = ji2 := (i64_w _).trans hji2
 by_cases c3 : 0 ≤ (ji2)
 ·
  rw [if_pos c3] at H
  have c3b0 := eq_true c3
  have c3b1 : decide (0 ≤ (ji2)) = true := decide_eq_true c3
  clear c3
  by_cases c4 : (ji2 : Int).toNat ≤ 281474976710656
  ·
   rw [if_pos c4] at H
   have c4b0 := eq_true c4
   have c4b1 : decide ((ji2 : Int).toNat ≤ 281474976710656) = true := decide_eq_true c4
   clear c4
   obtain ⟨y139, hy139⟩ : ∃ y_ : List Int, y_ = (List.replicate (ji2 : Int).toNat 0) := ⟨_, rfl⟩
   replace H : ((object_Raw.f k 1 (strOfNums y139)).bind fun bt142 => ((pollardref07_Raw.f k 1 (strOfNums y139)).bind fun t144 => ((object_Open.f k t144).bind fun bt145 => (if (ji2) > 262144 then ((pollardlaw07_awake.f k).bind fun t148 => (if t148 = true then (if bt142.2 = 3 then (if bt142.1.toList = ([] : List UInt8) then (some (bt145.2.2 == 3)) else (none)) else (none)) else (none))) else ((pollardlaw07_awake.f k).bind fun t149 => (if t149 = true then (if bt142.2 = 0 then (if bt145.2.2 = 0 then ((pollardref07_Raw.f k 1 (strOfNums y139)).bind fun t150 => (some (bt142.1.toList == t150.toList))) else (none)) else (none)) else (none))))))) = some r := by first | (rw [hy139]; with_reducible exact H) | (have H2_ := (Option.bind_some _ _).symm.trans H; rw [hy139]; with_reducible exact H2_) | (have H2_ := (Option.bind_some _ _).symm.trans H; with_reducible exact H2_) | with_reducible exact H | (rw [hy139]; exact H) | exact H
   have Ny139 := Aside0.mk hy139
   clear hy139
   replace H := Option.bind_eq_some_iff.mp H
   obtain ⟨⟨t142, t143⟩, A50, H⟩ := H
   replace H : ((pollardref07_Raw.f k 1 (strOfNums y139)).bind fun t144 => ((object_Open.f k t144).bind fun bt145 => (if (ji2) > 262144 then ((pollardlaw07_awake.f k).bind fun t148 => (if t148 = true then (if t143 = 3 then (if t142.toList = ([] : List UInt8) then (some (bt145.2.2 == 3)) else (none)) else (none)) else (none))) else ((pollardlaw07_awake.f k).bind fun t149 => (if t149 = true then (if t143 = 0 then (if bt145.2.2 = 0 then ((pollardref07_Raw.f k 1 (strOfNums y139)).bind fun t150 => (some (t142.toList == t150.toList))) else (none)) else (none)) else (none)))))) = some r := H
   have A5 := Aside0.mk A50
   clear A50
   replace H := Option.bind_eq_some_iff.mp H
   obtain ⟨t144, A60, H⟩ := H
   replace H : ((object_Open.f k t144).bind fun bt145 => (if (ji2) > 262144 then ((pollardlaw07_awake.f k).bind fun t148 => (if t148 = true then (if t143 = 3 then (if t142.toList = ([] : List UInt8) then (some (bt145.2.2 == 3)) else (none)) else (none)) else (none))) else ((pollardlaw07_awake.f k).bind fun t149 => (if t149 = true then (if t143 = 0 then (if bt145.2.2 = 0 then ((pollardref07_Raw.f k 1 (strOfNums y139)).bind fun t150 => (some (t142.toList == t150.toList))) else (none)) else (none)) else (none))))) = some r := H
   have A6 := Aside0.mk A60
   clear A60
   replace H := Option.bind_eq_some_iff.mp H
   obtain ⟨⟨t145, t146, t147⟩, A70, H⟩ := H
   replace H : (if (ji2) > 262144 then ((pollardlaw07_awake.f k).bind fun t148 => (if t148 = true then (if t143 = 3 then (if t142.toList = ([] : List UInt8) then (some (t147 == 3)) else (none)) else (none)) else (none))) else ((pollardlaw07_awake.f k).bind fun t149 => (if t149 = true then (if t143 = 0 then (if t147 = 0 then ((pollardref07_Raw.f k 1 (strOfNums y139)).bind fun t150 => (some (t142.toList == t150.toList))) else (none)) else (none)) else (none)))) = some r := H
   have A7 := Aside0.mk A70
   clear A70
   by_cases c8 : (ji2) > 262144
   ·
    rw [if_pos c8] at H
    have c8b0 : decide (262144 < (ji2)) = true := decide_eq_true c8
    clear c8
    replace H := Option.bind_eq_some_iff.mp H
    obtain ⟨t148, A90, H⟩ := H
    replace H : (if t148 = true then (if t143 = 3 then (if t142.toList = ([] : List UInt8) then (some (t147 == 3)) else (none)) else (none)) else (none)) = some r := H
    have A9 := Aside0.mk A90
    clear A90
    by_cases c10 : t148 = true
    ·
     subst c10
     have H1 : (if t143 = 3 then (if t142.toList = ([] : List UInt8) then (some (t147 == 3)) else (none)) else (none)) = some r := by rw [if_pos rfl] at H; exact H
     clear H
     have H := H1
     clear H1
     by_cases c11 : t143 = 3
     ·
      rw [if_pos c11] at H
      have c11b0 : (t143 == 3) = true := beq_iff_eq.mpr c11
      have c11b1 : (t143 != 3) = false := bne_eq_false_iff_eq.mpr c11
      clear c11
      by_cases c12 : t142.toList = ([] : List UInt8)
      · rw [if_pos c12] at H
        have c12b0 : (t142.toList == ([] : List UInt8)) = true := beq_iff_eq.mpr c12
        have c12b1 : (t142.toList != ([] : List UInt8)) = false := bne_eq_false_iff_eq.mpr c12
        clear c12
        obtain rfl := Option.some.inj H
        go_enter Try.func4, Try.ntmps4
        go_wp2_with (first | ((with_reducible refine gate_dst (N := 14) rfl ?_); refine Kd.R_make (Kd.int .u8) _ 5 rfl (N := 14) rfl 31 _ _ rfl ji2 rfl rfl Try.underlying31 (.int .u8 0) 1 info5 rfl (by decide) (by omega) 0 (ok := fun _ => True) (okp := fun _ => True) rfl (fun _ hk => hk) trivial (of_decide_eq_true (by first | (with_reducible assumption) | assumption)) (Nat.le_trans (Nat.mul_le_mul_right _ (of_decide_eq_true (by first | (with_reducible assumption) | assumption) : ji2.toNat ≤ 281474976710656)) (by omega)) (Below.refl _ _) (Nat.le_refl _) ?_; intro v140 w13 ho14 hb hg_ hnew_; clear hg_ hnew_; (first | rw [← Ny139.out] at ho14 | (simp only [Int.reduceToNat] at ho14; rw [← Ny139.out] at ho14)); have n0_ := Aside0.mk (Kd.R_lower ho14 (below_size (by repeat (first | (with_reducible first | exact HB.out | apply below_alloc | apply pw_below_drewN | apply below_drew1) | exact HB.out)))); have n1_ := Aside0.mk (below_step (by repeat (first | (with_reducible first | exact HB.out | apply below_alloc | apply pw_below_drewN | apply below_drew1) | exact HB.out)) hb); clear HB; have HO141 := n0_; have HB := n1_; clear n0_ n1_; clear hb ho14; have hcv15 := own_string (P := Try.prog) Try.underlying31 Try.underlying5 Try.underlying9 (Kd.own_of_R HO141.out)) | ((with_reducible refine gate_callee (f := 8) rfl ?_); refine goesL_ (some 18) rfl rfl Try.func8 (by kernel_rfl) rfl #[.int .i64 1, .string (strOfNums y139)] rfl (by (try simp only [List.map_toArray, List.map_cons, List.map_nil]); first | done | rfl | (simp only [List.length_drop, List.length_take]; rfl)) ?_; (with_reducible refine (object_Raw.calls k 1 (strOfNums y139) t142 t143 _ A5.out).mono ?_); rintro e w16 ⟨rfl, hb⟩; refine ⟨_, rfl, ?_⟩; have n0_ := Aside0.mk (Kd.R_below (by (with_reducible repeat (first | apply Kd.R_alloc | apply Kd.R_drewN | apply Kd.R_drew)); exact HO141.out) hb); have n1_ := Aside0.mk (below_step (by repeat (first | (with_reducible first | exact HB.out | apply below_alloc | apply pw_below_drewN | apply below_drew1) | exact HB.out)) hb); clear HO141; clear HB; have HO141 := n0_; have HB := n1_; clear n0_ n1_; (try clear hb); (try clear hb2); (try clear hk); (try clear hi)) | ((with_reducible refine gate_callee (f := 12) rfl ?_); refine goesL_ (some 23) rfl rfl Try.func12 (by kernel_rfl) rfl #[.int .i64 1, .string (strOfNums y139)] rfl (by (try simp only [List.map_toArray, List.map_cons, List.map_nil]); first | done | rfl | (simp only [List.length_drop, List.length_take]; rfl)) ?_; (with_reducible refine (pollardref07_Raw.calls k 1 (strOfNums y139) t144 _ A6.out).mono ?_); rintro e w17 ⟨rfl, hb⟩; refine ⟨_, rfl, ?_⟩; have n0_ := Aside0.mk (Kd.R_below (by (with_reducible repeat (first | apply Kd.R_alloc | apply Kd.R_drewN | apply Kd.R_drew)); exact HO141.out) hb); have n1_ := Aside0.mk (below_step (by repeat (first | (with_reducible first | exact HB.out | apply below_alloc | apply pw_below_drewN | apply below_drew1) | exact HB.out)) hb); clear HO141; clear HB; have HO141 := n0_; have HB := n1_; clear n0_ n1_; (try clear hb); (try clear hb2); (try clear hk); (try clear hi)) | ((with_reducible refine gate_callee (f := 11) rfl ?_); refine goesL_ (some 24) rfl rfl Try.func11 (by kernel_rfl) rfl #[.string t144] rfl (by (try simp only [List.map_toArray, List.map_cons, List.map_nil]); first | done | rfl | (simp only [List.length_drop, List.length_take]; rfl)) ?_; (with_reducible refine (object_Open.calls k t144 t145 t146 t147 _ A7.out).mono ?_); rintro e w18 ⟨rfl, hb⟩; refine ⟨_, rfl, ?_⟩; have n0_ := Aside0.mk (Kd.R_below (by (with_reducible repeat (first | apply Kd.R_alloc | apply Kd.R_drewN | apply Kd.R_drew)); exact HO141.out) hb); have n1_ := Aside0.mk (below_step (by repeat (first | (with_reducible first | exact HB.out | apply below_alloc | apply pw_below_drewN | apply below_drew1) | exact HB.out)) hb); clear HO141; clear HB; have HO141 := n0_; have HB := n1_; clear n0_ n1_; (try clear hb); (try clear hb2); (try clear hk); (try clear hi)) | ((with_reducible refine gate_callee (f := 10) rfl ?_); refine goesL_ (some 30) rfl rfl Try.func10 (by kernel_rfl) rfl #[] rfl (by (try simp only [List.map_toArray, List.map_cons, List.map_nil]); first | done | rfl | (simp only [List.length_drop, List.length_take]; rfl)) ?_; (with_reducible refine (pollardlaw07_awake.calls k  true _ A9.out).mono ?_); rintro e w19 ⟨rfl, hb⟩; refine ⟨_, rfl, ?_⟩; have n0_ := Aside0.mk (Kd.R_below (by (with_reducible repeat (first | apply Kd.R_alloc | apply Kd.R_drewN | apply Kd.R_drew)); exact HO141.out) hb); have n1_ := Aside0.mk (below_step (by repeat (first | (with_reducible first | exact HB.out | apply below_alloc | apply pw_below_drewN | apply below_drew1) | exact HB.out)) hb); clear HO141; clear HB; have HO141 := n0_; have HB := n1_; clear n0_ n1_; (try clear hb); (try clear hb2); (try clear hk); (try clear hi)))
        go_ret
        exact ⟨by first | rfl | (simp [errW_none, errW_some] <;> rfl) | (simp only [← hji2]; first | rfl | (simp [errW_none, errW_some] <;> rfl)) | (simp [*, errW_none, errW_some] <;> rfl), by repeat (first | (with_reducible first | exact HB.out | apply below_alloc | apply pw_below_drewN | apply below_drew1) | exact HB.out)⟩
      · rw [if_neg c12] at H
        exact absurd H (by simp)
     · rw [if_neg c11] at H
       exact absurd H (by simp)
    · replace c10 := Bool.eq_false_iff.mpr c10
      subst c10
      have H1 : (none) = some r := by rw [if_neg (show ¬ (false = true) by decide)] at H; exact H
      clear H
      have H := H1
      clear H1
      exact absurd H (by simp)
   ·
    rw [if_neg c8] at H
    have c8b0 : decide (262144 < (ji2)) = false := decide_eq_false c8
    clear c8
    replace H := Option.bind_eq_some_iff.mp H
    obtain ⟨t149, A200, H⟩ := H
    replace H : (if t149 = true then (if t143 = 0 then (if t147 = 0 then ((pollardref07_Raw.f k 1 (strOfNums y139)).bind fun t150 => (some (t142.toList == t150.toList))) else (none)) else (none)) else (none)) = some r := H
    have A20 := Aside0.mk A200
    clear A200
    by_cases c21 : t149 = true
    ·
     subst c21
     have H1 : (if t143 = 0 then (if t147 = 0 then ((pollardref07_Raw.f k 1 (strOfNums y139)).bind fun t150 => (some (t142.toList == t150.toList))) else (none)) else (none)) = some r := by rw [if_pos rfl] at H; exact H
     clear H
     have H := H1
     clear H1
     by_cases c22 : t143 = 0
     ·
      rw [if_pos c22] at H
      have c22b0 : (t143 == 0) = true := beq_iff_eq.mpr c22
      have c22b1 : (t143 != 0) = false := bne_eq_false_iff_eq.mpr c22
      clear c22
      by_cases c23 : t147 = 0
      ·
       rw [if_pos c23] at H
       have c23b0 : (t147 == 0) = true := beq_iff_eq.mpr c23
       have c23b1 : (t147 != 0) = false := bne_eq_false_iff_eq.mpr c23
       clear c23
       replace H := Option.bind_eq_some_iff.mp H
       obtain ⟨t150, A240, H⟩ := H
       replace H : (some (t142.toList == t150.toList)) = some r := H
       have A24 := Aside0.mk A240
       clear A240
       obtain rfl := Option.some.inj H
       go_enter Try.func4, Try.ntmps4
       go_wp2_with (first | ((with_reducible refine gate_dst (N := 14) rfl ?_); refine Kd.R_make (Kd.int .u8) _ 5 rfl (N := 14) rfl 31 _ _ rfl ji2 rfl rfl Try.underlying31 (.int .u8 0) 1 info5 rfl (by decide) (by omega) 0 (ok := fun _ => True) (okp := fun _ => True) rfl (fun _ hk => hk) trivial (of_decide_eq_true (by first | (with_reducible assumption) | assumption)) (Nat.le_trans (Nat.mul_le_mul_right _ (of_decide_eq_true (by first | (with_reducible assumption) | assumption) : ji2.toNat ≤ 281474976710656)) (by omega)) (Below.refl _ _) (Nat.le_refl _) ?_; intro v140 w25 ho26 hb hg_ hnew_; clear hg_ hnew_; (first | rw [← Ny139.out] at ho26 | (simp only [Int.reduceToNat] at ho26; rw [← Ny139.out] at ho26)); have n0_ := Aside0.mk (Kd.R_lower ho26 (below_size (by repeat (first | (with_reducible first | exact HB.out | apply below_alloc | apply pw_below_drewN | apply below_drew1) | exact HB.out)))); have n1_ := Aside0.mk (below_step (by repeat (first | (with_reducible first | exact HB.out | apply below_alloc | apply pw_below_drewN | apply below_drew1) | exact HB.out)) hb); clear HB; have HO141 := n0_; have HB := n1_; clear n0_ n1_; clear hb ho26; have hcv27 := own_string (P := Try.prog) Try.underlying31 Try.underlying5 Try.underlying9 (Kd.own_of_R HO141.out)) | ((with_reducible refine gate_callee (f := 8) rfl ?_); refine goesL_ (some 18) rfl rfl Try.func8 (by kernel_rfl) rfl #[.int .i64 1, .string (strOfNums y139)] rfl (by (try simp only [List.map_toArray, List.map_cons, List.map_nil]); first | done | rfl | (simp only [List.length_drop, List.length_take]; rfl)) ?_; (with_reducible refine (object_Raw.calls k 1 (strOfNums y139) t142 t143 _ A5.out).mono ?_); rintro e w28 ⟨rfl, hb⟩; refine ⟨_, rfl, ?_⟩; have n0_ := Aside0.mk (Kd.R_below (by (with_reducible repeat (first | apply Kd.R_alloc | apply Kd.R_drewN | apply Kd.R_drew)); exact HO141.out) hb); have n1_ := Aside0.mk (below_step (by repeat (first | (with_reducible first | exact HB.out | apply below_alloc | apply pw_below_drewN | apply below_drew1) | exact HB.out)) hb); clear HO141; clear HB; have HO141 := n0_; have HB := n1_; clear n0_ n1_; (try clear hb); (try clear hb2); (try clear hk); (try clear hi)) | ((with_reducible refine gate_callee (f := 12) rfl ?_); refine goesL_ (some 23) rfl rfl Try.func12 (by kernel_rfl) rfl #[.int .i64 1, .string (strOfNums y139)] rfl (by (try simp only [List.map_toArray, List.map_cons, List.map_nil]); first | done | rfl | (simp only [List.length_drop, List.length_take]; rfl)) ?_; (with_reducible refine (pollardref07_Raw.calls k 1 (strOfNums y139) t144 _ A6.out).mono ?_); rintro e w29 ⟨rfl, hb⟩; refine ⟨_, rfl, ?_⟩; have n0_ := Aside0.mk (Kd.R_below (by (with_reducible repeat (first | apply Kd.R_alloc | apply Kd.R_drewN | apply Kd.R_drew)); exact HO141.out) hb); have n1_ := Aside0.mk (below_step (by repeat (first | (with_reducible first | exact HB.out | apply below_alloc | apply pw_below_drewN | apply below_drew1) | exact HB.out)) hb); clear HO141; clear HB; have HO141 := n0_; have HB := n1_; clear n0_ n1_; (try clear hb); (try clear hb2); (try clear hk); (try clear hi)) | ((with_reducible refine gate_callee (f := 11) rfl ?_); refine goesL_ (some 24) rfl rfl Try.func11 (by kernel_rfl) rfl #[.string t144] rfl (by (try simp only [List.map_toArray, List.map_cons, List.map_nil]); first | done | rfl | (simp only [List.length_drop, List.length_take]; rfl)) ?_; (with_reducible refine (object_Open.calls k t144 t145 t146 t147 _ A7.out).mono ?_); rintro e w30 ⟨rfl, hb⟩; refine ⟨_, rfl, ?_⟩; have n0_ := Aside0.mk (Kd.R_below (by (with_reducible repeat (first | apply Kd.R_alloc | apply Kd.R_drewN | apply Kd.R_drew)); exact HO141.out) hb); have n1_ := Aside0.mk (below_step (by repeat (first | (with_reducible first | exact HB.out | apply below_alloc | apply pw_below_drewN | apply below_drew1) | exact HB.out)) hb); clear HO141; clear HB; have HO141 := n0_; have HB := n1_; clear n0_ n1_; (try clear hb); (try clear hb2); (try clear hk); (try clear hi)) | ((with_reducible refine gate_callee (f := 10) rfl ?_); refine goesL_ (some 43) rfl rfl Try.func10 (by kernel_rfl) rfl #[] rfl (by (try simp only [List.map_toArray, List.map_cons, List.map_nil]); first | done | rfl | (simp only [List.length_drop, List.length_take]; rfl)) ?_; (with_reducible refine (pollardlaw07_awake.calls k  true _ A20.out).mono ?_); rintro e w31 ⟨rfl, hb⟩; refine ⟨_, rfl, ?_⟩; have n0_ := Aside0.mk (Kd.R_below (by (with_reducible repeat (first | apply Kd.R_alloc | apply Kd.R_drewN | apply Kd.R_drew)); exact HO141.out) hb); have n1_ := Aside0.mk (below_step (by repeat (first | (with_reducible first | exact HB.out | apply below_alloc | apply pw_below_drewN | apply below_drew1) | exact HB.out)) hb); clear HO141; clear HB; have HO141 := n0_; have HB := n1_; clear n0_ n1_; (try clear hb); (try clear hb2); (try clear hk); (try clear hi)) | (go_at_call 12; (with_reducible refine (pollardref07_Raw.calls k 1 (strOfNums y139) t150 _ A24.out).mono ?_); rintro e w32 ⟨rfl, hb⟩; have n0_ := Aside0.mk (Kd.R_below (by (with_reducible repeat (first | apply Kd.R_alloc | apply Kd.R_drewN | apply Kd.R_drew)); exact HO141.out) hb); have n1_ := Aside0.mk (below_step (by repeat (first | (with_reducible first | exact HB.out | apply below_alloc | apply pw_below_drewN | apply below_drew1) | exact HB.out)) hb); clear HO141; clear HB; have HO141 := n0_; have HB := n1_; clear n0_ n1_; (try clear hb); (try clear hb2); (try clear hk); (try clear hi)))
       go_ret
       exact ⟨by first | rfl | (simp [errW_none, errW_some] <;> rfl) | (simp only [← hji2]; first | rfl | (simp [errW_none, errW_some] <;> rfl)) | (simp [*, errW_none, errW_some] <;> rfl), by repeat (first | (with_reducible first | exact HB.out | apply below_alloc | apply pw_below_drewN | apply below_drew1) | exact HB.out)⟩
      · rw [if_neg c23] at H
        exact absurd H (by simp)
     · rw [if_neg c22] at H
       exact absurd H (by simp)
    · replace c21 := Bool.eq_false_iff.mpr c21
      subst c21
      have H1 : (none) = some r := by rw [if_neg (show ¬ (false = true) by decide)] at H; exact H
      clear H
      have H := H1
      clear H1
      exact absurd H (by simp)
  · rw [if_neg c4] at H
    exact absurd H (by simp)
 · rw [if_neg c3] at H
   exact absurd H (by simp)

/-- THE ONE PURE STATEMENT of pollardlaw07_ObjectMost: yours. -/
def pollardlaw07_ObjectMost.Pure : Prop := ∀ (a0 : Int), (Lit.int .i64 a0).wf = true → ∃ k, pollardlaw07_ObjectMost.f k a0 = some true
theorem pollardlaw07_ObjectMost.walk (P : pollardlaw07_ObjectMost.Pure) (a0 : Int) (w : World) (w0 : (Lit.int .i64 a0).wf = true) :
 Calls Try.prog 4 #[.int .i64 a0] w fun e w' => e = .returned (.bool true) ∧ Below w.heap.size w w' := by
 obtain ⟨k, h⟩ := P a0 w0
 refine (pollardlaw07_ObjectMost.calls k a0 true w h).mono ?_
 rintro e w' ⟨rfl, hd⟩
 exact ⟨rfl, hd⟩

/-! ### pollardlaw07_few: function 9 -/
def pollardlaw07_few.f (a0 : ByteArray) : Option (ByteArray) := if (a0.size : Int) > 5000 then (if 0 ≤ 5000 then (if 5000 ≤ (a0.size : Int) then (some (a0.extract 0 5000)) else (none)) else (none)) else (some a0)
set_option maxHeartbeats 8000000 in
set_option maxRecDepth 100000 in
theorem pollardlaw07_few.calls (a0 : ByteArray) (r : ByteArray) (w : World) (h : pollardlaw07_few.f a0 = some r) :
 Calls Try.prog 9 #[.string a0] w fun e w' => e = .returned (.string r) ∧ Drawn0 w w' := by
 have H : (if (a0.size : Int) > 5000 then (if 0 ≤ 5000 then (if 5000 ≤ (a0.size : Int) then (some (a0.extract 0 5000)) else (none)) else (none)) else (some a0)) = some r := h
 clear h
 by_cases c2 : (a0.size : Int) > 5000
 ·
  rw [if_pos c2] at H
  have c2b0 : decide (5000 < (a0.size : Int)) = true := decide_eq_true c2
  have c2b1 : decide (5000 < a0.size) = true := decide_eq_true (by omega)
  clear c2
  by_cases c3 : 0 ≤ 5000
  ·
   rw [if_pos c3] at H
   have c3b0 := eq_true c3
   have c3b1 : decide (0 ≤ 5000) = true := decide_eq_true c3
   clear c3
   by_cases c4 : 5000 ≤ (a0.size : Int)
   · rw [if_pos c4] at H
     have c4b0 := eq_true c4
     have c4b1 : decide (5000 ≤ (a0.size : Int)) = true := decide_eq_true c4
     clear c4
     obtain rfl := Option.some.inj H
     go_enter Try.func9, Try.ntmps9
     go_wp2
     go_ret
     exact ⟨by first | rfl | (simp; done) | (simp [*]; done), by repeat (first | exact Drawn0.refl _ | apply Drawn0.step)⟩
   · rw [if_neg c4] at H
     exact absurd H (by simp)
  · rw [if_neg c3] at H
    exact absurd H (by simp)
 · rw [if_neg c2] at H
   have c2b0 : decide (5000 < (a0.size : Int)) = false := decide_eq_false c2
   have c2b1 : decide (5000 < a0.size) = false := decide_eq_false (by omega)
   clear c2
   obtain rfl := Option.some.inj H
   go_enter Try.func9, Try.ntmps9
   go_wp2
   go_ret
   exact ⟨by first | rfl | (simp; done) | (simp [*]; done), by repeat (first | exact Drawn0.refl _ | apply Drawn0.step)⟩

end Go.Proofs.Ytnapcfpecpgdbaa.M
