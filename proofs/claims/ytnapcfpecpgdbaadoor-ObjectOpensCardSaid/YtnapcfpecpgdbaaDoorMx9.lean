/- The program's functions as plain functions, and that each call comes to what these tell; written by a program of this session, some contracts by hand. Conditions: none. -/
import Derived.Test.YtnapcfpecpgdbaaDoorMx0
import Derived.Test.YtnapcfpecpgdbaaDoorMx8
namespace Go.Proofs.YtnapcfpecpgdbaaDoor.M
open Go.RowKit Go.Proofs.YtnapcfpecpgdbaaDoorW.PrintWords Go.Proofs.YtnapcfpecpgdbaaDoorW.PrintLast Go.Proofs.YtnapcfpecpgdbaaDoorW.PrintMore
attribute [local go_sem] max2_int min2_int max_two min_two max_three min_three max_four min_four   -- for this text's walks alone
set_option linter.unusedVariables false
set_option linter.unusedSimpArgs false

/-! ### ob_idOf: function 21 -/
def ob_idOf.f (a0 : ByteArray) : Option (ByteArray × Bool) := (code_Unhex.f a0).bind fun bt145 => (if bt145.2 = 0 then (some (bt145.1, ((bt145.1.size : Int) == 32))) else (some (bt145.1, false)))
set_option maxHeartbeats 8000000 in
set_option maxRecDepth 100000 in
theorem ob_idOf.calls (a0 : ByteArray) (r1 : ByteArray) (r2 : Bool) (w : World) (h : ob_idOf.f a0 = some (r1, r2)) :
 Calls Tryd.prog 21 #[.string a0] w fun e w' => e = .returned (.tuple #[.string r1, .bool r2]) ∧ Below w.heap.size w w' := by
 have HB := Aside0.mk (Below.refl w.heap.size w)
 have H : ((code_Unhex.f a0).bind fun bt145 => (if bt145.2 = 0 then (some (bt145.1, ((bt145.1.size : Int) == 32))) else (some (bt145.1, false)))) = some (r1, r2) := h
 clear h
 replace H := Option.bind_eq_some_iff.mp H
 obtain ⟨⟨t145, t146⟩, A20, H⟩ := H
 try dsimp only at H
 have A2 := Aside0.mk A20
 clear A20
 by_cases c3 : t146 = 0
 · rw [if_pos c3] at H
   have c3b0 : (t146 == 0) = true := beq_iff_eq.mpr c3
   have c3b1 : (t146 != 0) = false := bne_eq_false_iff_eq.mpr c3
   clear c3
   simp only [Option.some.injEq, Prod.mk.injEq] at H
   obtain ⟨rfl, rfl⟩ := H
   go_enter Tryd.func21, Tryd.ntmps21
   go_wp2_with (first | ((with_reducible refine gate_callee (f := 49) rfl ?_); refine goesM_ (some 8) Tryd.func49 #[.string a0] ?_; (with_reducible refine (code_Unhex.calls a0 t145 t146 _ A2.out).mono ?_); rintro e w4 ⟨rfl, hb⟩; refine ⟨_, rfl, ?_⟩; have n0_ := Aside0.mk (below_step bz_ hb); clear HB; have HB := n0_; clear n0_; (try clear hb); (try clear hb2); (try clear hk); (try clear hi)))
   go_ret2
   exact ⟨xz_, bz_⟩
 · rw [if_neg c3] at H
   have c3b0 : (t146 == 0) = false := beq_eq_false_iff_ne.mpr c3
   have c3b1 : (t146 != 0) = true := bne_iff_ne.mpr c3
   simp only [Option.some.injEq, Prod.mk.injEq] at H
   obtain ⟨rfl, rfl⟩ := H
   go_enter Tryd.func21, Tryd.ntmps21
   go_wp2_with (first | ((with_reducible refine gate_callee (f := 49) rfl ?_); refine goesM_ (some 8) Tryd.func49 #[.string a0] ?_; (with_reducible refine (code_Unhex.calls a0 t145 t146 _ A2.out).mono ?_); rintro e w5 ⟨rfl, hb⟩; refine ⟨_, rfl, ?_⟩; have n0_ := Aside0.mk (below_step bz_ hb); clear HB; have HB := n0_; clear n0_; (try clear hb); (try clear hb2); (try clear hk); (try clear hi)))
   go_ret2
   exact ⟨xz_, bz_⟩

end Go.Proofs.YtnapcfpecpgdbaaDoor.M
