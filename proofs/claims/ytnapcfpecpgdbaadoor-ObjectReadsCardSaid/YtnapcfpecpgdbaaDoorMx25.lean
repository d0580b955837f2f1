/- The program's functions as plain functions, and that each call comes to what these tell; written by a program of this session, some contracts by hand. Conditions: none. -/
import Derived.Test.YtnapcfpecpgdbaaDoorMx0
import Derived.Test.YtnapcfpecpgdbaaDoorMx22
import Derived.Test.YtnapcfpecpgdbaaDoorMx23
import Derived.Test.YtnapcfpecpgdbaaDoorMx24
namespace Go.Proofs.YtnapcfpecpgdbaaDoor.M
open Go.RowKit Go.Proofs.YtnapcfpecpgdbaaDoorW.PrintWords Go.Proofs.YtnapcfpecpgdbaaDoorW.PrintLast Go.Proofs.YtnapcfpecpgdbaaDoorW.PrintMore
attribute [local go_sem] max2_int min2_int max_two min_two max_three min_three max_four min_four   -- for this text's walks alone
set_option linter.unusedVariables false
set_option linter.unusedSimpArgs false

/-! ### object_ID: function 28 -/
def object_ID.f (a0 : ByteArray) : Option (ByteArray) := (sum_Of.f a0).bind fun t206 => (some t206)
set_option maxHeartbeats 8000000 in
set_option maxRecDepth 100000 in
theorem object_ID.calls (a0 : ByteArray) (r : ByteArray) (w : World) (h : object_ID.f a0 = some r) :
 Calls Tryd.prog 28 #[.string a0] w fun e w' => e = .returned (.string r) ∧ Below w.heap.size w w' := by
 have HB := Aside0.mk (Below.refl w.heap.size w)
 have H : ((sum_Of.f a0).bind fun t206 => (some t206)) = some r := h
 clear h
 replace H := Option.bind_eq_some_iff.mp H
 obtain ⟨t206, A20, H⟩ := H
 replace H : (some t206) = some r := H
 have A2 := Aside0.mk A20
 clear A20
 obtain rfl := Option.some.inj H
 go_enter Tryd.func28, Tryd.ntmps28
 go_wp2_with (first | ((with_reducible refine gate_callee (f := 52) rfl ?_); refine goesL_ (some 4) rfl rfl Tryd.func52 (by kernel_rfl) rfl #[.string a0] rfl (by (try simp only [List.map_toArray, List.map_cons, List.map_nil]); first | done | rfl | (simp only [List.length_drop, List.length_take]; rfl)) ?_; (with_reducible refine (sum_Of.calls a0 t206 _ A2.out).mono ?_); rintro e w3 ⟨rfl, hb⟩; refine ⟨_, rfl, ?_⟩; have n0_ := Aside0.mk (below_step (by repeat (first | (with_reducible first | exact HB.out | apply below_alloc | apply pw_below_drewN | apply below_drew1) | exact HB.out)) hb); clear HB; have HB := n0_; clear n0_; (try clear hb); (try clear hb2); (try clear hk); (try clear hi)))
 go_ret
 exact ⟨by first | rfl | (simp [errW_none, errW_some] <;> rfl) | (simp [*, errW_none, errW_some] <;> rfl), by repeat (first | (with_reducible first | exact HB.out | apply below_alloc | apply pw_below_drewN | apply below_drew1) | exact HB.out)⟩

/-! ### pollardlaw07_awake: function 9 -/
def pollardlaw07_awake.f (k : Nat)  : Option (Bool) := (object_Raw.f k 1 (⟨#[]⟩ : ByteArray)).bind fun bt207 => ((object_Open.f k bt207.1).bind fun bt209 => (if bt207.2 = 0 then (if bt207.1.toList = ([98, 108, 111, 98, 32, 48, 0] : List UInt8) then (if bt209.2.2 = 0 then (if bt209.1 = 1 then (if bt209.2.1.toList = ([] : List UInt8) then ((object_ID.f bt207.1).bind fun t212 => (some ((t212.size : Int) == 32))) else (none)) else (none)) else (none)) else (none)) else (none)))
theorem pollardlaw07_awake.mono : ∀ k, LeO (pollardlaw07_awake.f k ) (pollardlaw07_awake.f (k + 1) ) := by
 intro  k
 unfold pollardlaw07_awake.f
 repeat' first
  | (with_reducible exact object_Open.mono _ _)
  | (with_reducible exact object_Raw.mono _ _ _)
  | (with_reducible exact LeO.refl _)
  | (with_reducible exact LeO.none _)
  | (with_reducible refine LeO.ite ?_ ?_)
  | (with_reducible refine LeO.bind ?_ (fun _ => ?_))
  | exact object_Open.mono _ _
  | exact object_Raw.mono _ _ _
  | exact LeO.none _
  | refine LeO.ite ?_ ?_
  | refine LeO.bind ?_ (fun _ => ?_)
set_option maxHeartbeats 8000000 in
set_option maxRecDepth 100000 in
theorem pollardlaw07_awake.calls (k : Nat)  (r : Bool) (w : World) (h : pollardlaw07_awake.f k  = some r) :
 Calls Tryd.prog 9 #[] w fun e w' => e = .returned (.bool r) ∧ Below w.heap.size w w' := by
 have HB := Aside0.mk (Below.refl w.heap.size w)
 have H : ((object_Raw.f k 1 (⟨#[]⟩ : ByteArray)).bind fun bt207 => ((object_Open.f k bt207.1).bind fun bt209 => (if bt207.2 = 0 then (if bt207.1.toList = ([98, 108, 111, 98, 32, 48, 0] : List UInt8) then (if bt209.2.2 = 0 then (if bt209.1 = 1 then (if bt209.2.1.toList = ([] : List UInt8) then ((object_ID.f bt207.1).bind fun t212 => (some ((t212.size : Int) == 32))) else (none)) else (none)) else (none)) else (none)) else (none)))) = some r := h
 clear h
 replace H := Option.bind_eq_some_iff.mp H
 obtain ⟨⟨t207, t208⟩, A10, H⟩ := H
 replace H : ((object_Open.f k t207).bind fun bt209 => (if t208 = 0 then (if t207.toList = ([98, 108, 111, 98, 32, 48, 0] : List UInt8) then (if bt209.2.2 = 0 then (if bt209.1 = 1 then (if bt209.2.1.toList = ([] : List UInt8) then ((object_ID.f t207).bind fun t212 => (some ((t212.size : Int) == 32))) else (none)) else (none)) else (none)) else (none)) else (none))) = some r := H
 have A1 := Aside0.mk A10
 clear A10
 replace H := Option.bind_eq_some_iff.mp H
 obtain ⟨⟨t209, t210, t211⟩, A20, H⟩ := H
 replace H : (if t208 = 0 then (if t207.toList = ([98, 108, 111, 98, 32, 48, 0] : List UInt8) then (if t211 = 0 then (if t209 = 1 then (if t210.toList = ([] : List UInt8) then ((object_ID.f t207).bind fun t212 => (some ((t212.size : Int) == 32))) else (none)) else (none)) else (none)) else (none)) else (none)) = some r := H
 have A2 := Aside0.mk A20
 clear A20
 by_cases c3 : t208 = 0
 ·
  rw [if_pos c3] at H
  have c3b0 : (t208 == 0) = true := beq_iff_eq.mpr c3
  have c3b1 : (t208 != 0) = false := bne_eq_false_iff_eq.mpr c3
  clear c3
  by_cases c4 : t207.toList = ([98, 108, 111, 98, 32, 48, 0] : List UInt8)
  ·
   rw [if_pos c4] at H
   have c4b0 : (t207.toList == ([98, 108, 111, 98, 32, 48, 0] : List UInt8)) = true := beq_iff_eq.mpr c4
   have c4b1 : (t207.toList != ([98, 108, 111, 98, 32, 48, 0] : List UInt8)) = false := bne_eq_false_iff_eq.mpr c4
   clear c4
   by_cases c5 : t211 = 0
   ·
    rw [if_pos c5] at H
    have c5b0 : (t211 == 0) = true := beq_iff_eq.mpr c5
    have c5b1 : (t211 != 0) = false := bne_eq_false_iff_eq.mpr c5
    clear c5
    by_cases c6 : t209 = 1
    ·
     rw [if_pos c6] at H
     have c6b0 : (t209 == 1) = true := beq_iff_eq.mpr c6
     have c6b1 : (t209 != 1) = false := bne_eq_false_iff_eq.mpr c6
     clear c6
     by_cases c7 : t210.toList = ([] : List UInt8)
     ·
      rw [if_pos c7] at H
      have c7b0 : (t210.toList == ([] : List UInt8)) = true := beq_iff_eq.mpr c7
      have c7b1 : (t210.toList != ([] : List UInt8)) = false := bne_eq_false_iff_eq.mpr c7
      clear c7
      replace H := Option.bind_eq_some_iff.mp H
      obtain ⟨t212, A80, H⟩ := H
      replace H : (some ((t212.size : Int) == 32)) = some r := H
      have A8 := Aside0.mk A80
      clear A80
      obtain rfl := Option.some.inj H
      go_enter Tryd.func9, Tryd.ntmps9
      go_wp2_with (first | ((with_reducible refine gate_callee (f := 27) rfl ?_); refine goesL_ (some 7) rfl rfl Tryd.func27 (by kernel_rfl) rfl #[.int .i64 1, .string (⟨#[]⟩ : ByteArray)] rfl (by (try simp only [List.map_toArray, List.map_cons, List.map_nil]); first | done | rfl | (simp only [List.length_drop, List.length_take]; rfl)) ?_; (with_reducible refine (object_Raw.calls k 1 (⟨#[]⟩ : ByteArray) t207 t208 _ A1.out).mono ?_); rintro e w9 ⟨rfl, hb⟩; refine ⟨_, rfl, ?_⟩; have n0_ := Aside0.mk (below_step (by repeat (first | (with_reducible first | exact HB.out | apply below_alloc | apply pw_below_drewN | apply below_drew1) | exact HB.out)) hb); clear HB; have HB := n0_; clear n0_; (try clear hb); (try clear hb2); (try clear hk); (try clear hi)) | ((with_reducible refine gate_callee (f := 16) rfl ?_); refine goesL_ (some 12) rfl rfl Tryd.func16 (by kernel_rfl) rfl #[.string t207] rfl (by (try simp only [List.map_toArray, List.map_cons, List.map_nil]); first | done | rfl | (simp only [List.length_drop, List.length_take]; rfl)) ?_; (with_reducible refine (object_Open.calls k t207 t209 t210 t211 _ A2.out).mono ?_); rintro e w10 ⟨rfl, hb⟩; refine ⟨_, rfl, ?_⟩; have n0_ := Aside0.mk (below_step (by repeat (first | (with_reducible first | exact HB.out | apply below_alloc | apply pw_below_drewN | apply below_drew1) | exact HB.out)) hb); clear HB; have HB := n0_; clear n0_; (try clear hb); (try clear hb2); (try clear hk); (try clear hi)) | (go_at_call 28; (with_reducible refine (object_ID.calls t207 t212 _ A8.out).mono ?_); rintro e w11 ⟨rfl, hb⟩; have n0_ := Aside0.mk (below_step (by repeat (first | (with_reducible first | exact HB.out | apply below_alloc | apply pw_below_drewN | apply below_drew1) | exact HB.out)) hb); clear HB; have HB := n0_; clear n0_; (try clear hb); (try clear hb2); (try clear hk); (try clear hi)))
      go_ret
      exact ⟨by first | rfl | (simp [errW_none, errW_some] <;> rfl) | (simp [*, errW_none, errW_some] <;> rfl), by repeat (first | (with_reducible first | exact HB.out | apply below_alloc | apply pw_below_drewN | apply below_drew1) | exact HB.out)⟩
     · rw [if_neg c7] at H
       exact absurd H (by simp)
    · rw [if_neg c6] at H
      exact absurd H (by simp)
   · rw [if_neg c5] at H
     exact absurd H (by simp)
  · rw [if_neg c4] at H
    exact absurd H (by simp)
 · rw [if_neg c3] at H
   exact absurd H (by simp)

end Go.Proofs.YtnapcfpecpgdbaaDoor.M
