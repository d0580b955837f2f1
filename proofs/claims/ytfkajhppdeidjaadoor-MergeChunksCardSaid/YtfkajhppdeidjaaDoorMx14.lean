/- The program's functions as plain functions, and that each call comes to what these tell; written by a program of this session, some contracts by hand. Conditions: none. -/
import Derived.Test.YtfkajhppdeidjaaDoorMx0
import Derived.Test.YtfkajhppdeidjaaDoorMx13
namespace Go.Proofs.YtfkajhppdeidjaaDoor.M
open Go.RowKit Go.Proofs.YtfkajhppdeidjaaDoorW.PrintWords Go.Proofs.YtfkajhppdeidjaaDoorW.PrintLast Go.Proofs.YtfkajhppdeidjaaDoorW.PrintMore
attribute [local go_sem] max2_int min2_int max_two min_two max_three min_three max_four min_four   -- for this text's walks alone
set_option linter.unusedVariables false
set_option linter.unusedSimpArgs false

/-! ### pollardlaw19_awake: function 12 -/
def pollardlaw19_awake.f (k : Nat)  : Option (Bool) := (merge_Texts.f k (⟨#[97, 10, 98, 10, 99, 10]⟩ : ByteArray) (⟨#[65, 10, 98, 10, 99, 10]⟩ : ByteArray) (⟨#[97, 10, 98, 10, 67, 10]⟩ : ByteArray)).bind fun bt345 => ((merge_Texts.f k (⟨#[97, 10]⟩ : ByteArray) (⟨#[98, 10]⟩ : ByteArray) (⟨#[99, 10]⟩ : ByteArray)).bind fun bt348 => (if bt345.2.2 = 0 then (if bt345.2.1 = true then (if bt345.1.toList = ([65, 10, 98, 10, 67, 10] : List UInt8) then (if bt348.2.2 = 0 then (some (!bt348.2.1)) else (none)) else (none)) else (none)) else (none)))
theorem pollardlaw19_awake.mono : ∀ k, LeO (pollardlaw19_awake.f k ) (pollardlaw19_awake.f (k + 1) ) := by
 intro  k
 unfold pollardlaw19_awake.f
 repeat' first
  | (with_reducible exact merge_Texts.mono _ _ _ _)
  | (with_reducible exact LeO.refl _)
  | (with_reducible exact LeO.none _)
  | (with_reducible refine LeO.ite ?_ ?_)
  | (with_reducible refine LeO.bind ?_ (fun _ => ?_))
  | exact merge_Texts.mono _ _ _ _
  | exact LeO.none _
  | refine LeO.ite ?_ ?_
  | refine LeO.bind ?_ (fun _ => ?_)
set_option maxHeartbeats 8000000 in
set_option maxRecDepth 100000 in
theorem pollardlaw19_awake.calls (k : Nat)  (r : Bool) (w : World) (h : pollardlaw19_awake.f k  = some r) :
 Calls Tryd.prog 12 #[] w fun e w' => e = .returned (.bool r) ∧ Below w.heap.size w w' := by
 have HB := Aside0.mk (Below.refl w.heap.size w)
 have H : ((merge_Texts.f k (⟨#[97, 10, 98, 10, 99, 10]⟩ : ByteArray) (⟨#[65, 10, 98, 10, 99, 10]⟩ : ByteArray) (⟨#[97, 10, 98, 10, 67, 10]⟩ : ByteArray)).bind fun bt345 => ((merge_Texts.f k (⟨#[97, 10]⟩ : ByteArray) (⟨#[98, 10]⟩ : ByteArray) (⟨#[99, 10]⟩ : ByteArray)).bind fun bt348 => (if bt345.2.2 = 0 then (if bt345.2.1 = true then (if bt345.1.toList = ([65, 10, 98, 10, 67, 10] : List UInt8) then (if bt348.2.2 = 0 then (some (!bt348.2.1)) else (none)) else (none)) else (none)) else (none)))) = some r := h
 clear h
 replace H := Option.bind_eq_some_iff.mp H
 obtain ⟨⟨t345, t346, t347⟩, A10, H⟩ := H
 replace H : ((merge_Texts.f k (⟨#[97, 10]⟩ : ByteArray) (⟨#[98, 10]⟩ : ByteArray) (⟨#[99, 10]⟩ : ByteArray)).bind fun bt348 => (if t347 = 0 then (if t346 = true then (if t345.toList = ([65, 10, 98, 10, 67, 10] : List UInt8) then (if bt348.2.2 = 0 then (some (!bt348.2.1)) else (none)) else (none)) else (none)) else (none))) = some r := H
 have A1 := Aside0.mk A10
 clear A10
 replace H := Option.bind_eq_some_iff.mp H
 obtain ⟨⟨t348, t349, t350⟩, A20, H⟩ := H
 replace H : (if t347 = 0 then (if t346 = true then (if t345.toList = ([65, 10, 98, 10, 67, 10] : List UInt8) then (if t350 = 0 then (some (!t349)) else (none)) else (none)) else (none)) else (none)) = some r := H
 have A2 := Aside0.mk A20
 clear A20
 by_cases c3 : t347 = 0
 ·
  rw [if_pos c3] at H
  have c3b0 : (t347 == 0) = true := beq_iff_eq.mpr c3
  have c3b1 : (t347 != 0) = false := bne_eq_false_iff_eq.mpr c3
  clear c3
  by_cases c4 : t346 = true
  ·
   subst c4
   have H1 : (if t345.toList = ([65, 10, 98, 10, 67, 10] : List UInt8) then (if t350 = 0 then (some (!t349)) else (none)) else (none)) = some r := by rw [if_pos rfl] at H; exact H
   clear H
   have H := H1
   clear H1
   by_cases c5 : t345.toList = ([65, 10, 98, 10, 67, 10] : List UInt8)
   ·
    rw [if_pos c5] at H
    have c5b0 : (t345.toList == ([65, 10, 98, 10, 67, 10] : List UInt8)) = true := beq_iff_eq.mpr c5
    have c5b1 : (t345.toList != ([65, 10, 98, 10, 67, 10] : List UInt8)) = false := bne_eq_false_iff_eq.mpr c5
    clear c5
    by_cases c6 : t350 = 0
    · rw [if_pos c6] at H
      have c6b0 : (t350 == 0) = true := beq_iff_eq.mpr c6
      have c6b1 : (t350 != 0) = false := bne_eq_false_iff_eq.mpr c6
      clear c6
      obtain rfl := Option.some.inj H
      go_enter Tryd.func12, Tryd.ntmps12
      go_wp2_with (first | ((with_reducible refine gate_callee (f := 15) rfl ?_); refine goesL_ (some 8) rfl rfl Tryd.func15 (by kernel_rfl) rfl #[.string (⟨#[97, 10, 98, 10, 99, 10]⟩ : ByteArray), .string (⟨#[65, 10, 98, 10, 99, 10]⟩ : ByteArray), .string (⟨#[97, 10, 98, 10, 67, 10]⟩ : ByteArray)] rfl (by (try simp only [List.map_toArray, List.map_cons, List.map_nil]); first | done | rfl | (simp only [List.length_drop, List.length_take]; rfl)) ?_; (with_reducible refine (merge_Texts.calls k (⟨#[97, 10, 98, 10, 99, 10]⟩ : ByteArray) (⟨#[65, 10, 98, 10, 99, 10]⟩ : ByteArray) (⟨#[97, 10, 98, 10, 67, 10]⟩ : ByteArray) t345 true t347 _ A1.out).mono ?_); rintro e w7 ⟨rfl, hb⟩; refine ⟨_, rfl, ?_⟩; have n0_ := Aside0.mk (below_step (by repeat (first | (with_reducible first | exact HB.out | apply below_alloc | apply pw_below_drewN | apply below_drew1) | exact HB.out)) hb); clear HB; have HB := n0_; clear n0_; (try clear hb); (try clear hb2); (try clear hk); (try clear hi)) | ((with_reducible refine gate_callee (f := 15) rfl ?_); refine goesL_ (some 13) rfl rfl Tryd.func15 (by kernel_rfl) rfl #[.string (⟨#[97, 10]⟩ : ByteArray), .string (⟨#[98, 10]⟩ : ByteArray), .string (⟨#[99, 10]⟩ : ByteArray)] rfl (by (try simp only [List.map_toArray, List.map_cons, List.map_nil]); first | done | rfl | (simp only [List.length_drop, List.length_take]; rfl)) ?_; (with_reducible refine (merge_Texts.calls k (⟨#[97, 10]⟩ : ByteArray) (⟨#[98, 10]⟩ : ByteArray) (⟨#[99, 10]⟩ : ByteArray) t348 t349 t350 _ A2.out).mono ?_); rintro e w8 ⟨rfl, hb⟩; refine ⟨_, rfl, ?_⟩; have n0_ := Aside0.mk (below_step (by repeat (first | (with_reducible first | exact HB.out | apply below_alloc | apply pw_below_drewN | apply below_drew1) | exact HB.out)) hb); clear HB; have HB := n0_; clear n0_; (try clear hb); (try clear hb2); (try clear hk); (try clear hi)))
      go_ret
      exact ⟨by first | rfl | (simp [errW_none, errW_some] <;> rfl) | (simp [*, errW_none, errW_some] <;> rfl), by repeat (first | (with_reducible first | exact HB.out | apply below_alloc | apply pw_below_drewN | apply below_drew1) | exact HB.out)⟩
    · rw [if_neg c6] at H
      exact absurd H (by simp)
   · rw [if_neg c5] at H
     exact absurd H (by simp)
  · replace c4 := Bool.eq_false_iff.mpr c4
    subst c4
    have H1 : (none) = some r := by rw [if_neg (show ¬ (false = true) by decide)] at H; exact H
    clear H
    have H := H1
    clear H1
    exact absurd H (by simp)
 · rw [if_neg c3] at H
   exact absurd H (by simp)

end Go.Proofs.YtfkajhppdeidjaaDoor.M
