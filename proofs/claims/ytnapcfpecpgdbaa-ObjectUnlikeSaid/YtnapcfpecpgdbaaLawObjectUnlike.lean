/- The row of the law pollard/pollardlaw07.ObjectUnlike, out of its plain law and the printed walk; written by hand. Conditions: none. -/
import Derived.Test.YtnapcfpecpgdbaaRows
import Derived.Test.YtnapcfpecpgdbaaPlUnlike
import Derived.WalkKit
import Derived.ProofKit
import Derived.OpenShut
import Derived.ShutString
import Derived.ChangeOld
import Derived.Below
import Derived.SizedLaws
namespace Go.Proofs.Ytnapcfpecpgdbaa.objectUnlike
open Go.ChangeShapes Go.WideShapes Go.ChangeAt Go.RowKit
open Go.ChangeMaps (open_string shut_string)
set_option linter.unusedVariables false
theorem own : ownKnob Try.prog.godebug = none := by kernel_rfl
theorem laidOut : laidOutB Try.prog = true := by kernel_rfl
theorem two (cs : Array Value) (h : cs.size = 2) : ∃ c0 c1, cs = #[c0, c1] := by
  obtain ⟨l⟩ := cs
  match l, h with
  | [c0, c1], _ => exact ⟨c0, c1, rfl⟩
set_option maxHeartbeats 1000000 in
set_option maxRecDepth 100000 in
theorem lifted (os : Os) (started : os.Started) (H : Type) (enc : TypeId × Value → H) :
    ReturnsInHanded {} Try.checked os 5 .any (Rows.objectUnlikeSpec.pre6 enc Try.prog Try.f5 Rows.objectUnlikeRow.domain false) (Rows.objectUnlikeSpec.post enc Try.prog Try.f5 false true false false) := by
  refine returnsInHanded_of_change_sized (C := Try.checked) own started (by kernel_rfl) Try.func5
    (ChangeSpec.witness6 (enc := enc) (C := Try.checked) false ⟨#[], #[.string ByteArray.empty, .string ByteArray.empty, .agg #[.int .i64 0, .int .i64 0]], []⟩ 8 (by kernel_rfl) (by kernel_rfl) (by kernel_rfl) (by kernel_rfl)) ?_
  intro W base args ds gs before hval0 hW hcnd hsz0 _
  have hval : ∀ (j : Nat) t v, Try.f5.params[j]? = some t → args[j]? = some v → Value.okWide Try.prog W .any base t v := hval0
  have hW' := hW
  obtain ⟨p, q, hA0, hV, rfl, hfz, hnd⟩ := hW
  have hA : DataW.TrodAll enc Try.prog W 0 (fun _ => true) true Try.f5.params.toList args.toList ds p := hA0
  rw [Try.params5] at hA hval
  obtain ⟨v0, vs0, d0, ds0, p0, q0, hargs, rfl, rfl, h0, r0⟩ := trodAll_cons hA
  obtain ⟨v1, vs1, d1, ds1, p1, q1, rfl, rfl, rfl, h1, r1⟩ := trodAll_cons r0
  obtain ⟨v2, vs2, d2, ds2, p2, q2, rfl, rfl, rfl, h2, r2⟩ := trodAll_cons r1
  obtain ⟨rfl, rfl, rfl⟩ := trodAll_nil r2
  obtain rfl : args = #[v0, v1, v2] := by cases args; simp_all
  obtain ⟨rfl, rfl⟩ := trodVars_none hV
  obtain ⟨a0, rfl, rfl, rfl, y0⟩ := open_string Try.underlying9 (hval 0 9 v0 rfl rfl) h0
  obtain ⟨a1, rfl, rfl, rfl, y1⟩ := open_string Try.underlying9 (hval 1 9 v1 rfl rfl) h1
  have lt2 : ∀ x ∈ p2, x.block < W.heap.size := by obtain ⟨m, hm⟩ := h2; exact DataW.trod_lt m _ _ _ hm
  have hv2 := hval 2 33 v2 rfl rfl
  clear hA0 hval0 hsz0 hA hval r0 r1 r2
  obtain ⟨cs, rfl, hcs⟩ : ∃ cs, v2 = .agg cs ∧ cs.size = Try.prog.cellsOf 33 := by
    simp only [Value.okWide, Try.underlying33] at hv2
    obtain ⟨cs, e1, e2, _⟩ := hv2
    exact ⟨cs, e1, e2⟩
  rw [show Try.prog.cellsOf 33 = 2 by kernel_rfl] at hcs
  have hc3 : Try.prog.cellsOf 3 = 1 := by kernel_rfl
  obtain ⟨m, hm⟩ := id h2
  obtain ⟨xs, n, -, -, -, hl, hel⟩ := DataW.trod_array Try.underlying33 hm
  obtain ⟨c0, c1, rfl⟩ := two cs hcs
  have g0 := hel 0 (by omega)
  have g1 := hel 1 (by omega)
  rw [hc3, List.getElem?_eq_getElem (by omega)] at g0 g1
  simp only [Value.cells, Nat.zero_mul, Nat.one_mul, List.drop_zero, List.drop_succ_cons, List.take_succ_cons, List.take_zero] at g0 g1
  obtain ⟨i0, e0, -, -⟩ := DataW.trod_int Try.underlying3 g0
  obtain ⟨i1, e1, -, -⟩ := DataW.trod_int Try.underlying3 g1
  obtain rfl : c0 = .int .i64 i0 := by injection e0
  obtain rfl : c1 = .int .i64 i1 := by injection e1
  refine (Pl.unlike_calls a0 a1 i0 i1 W).mono fun e W' ⟨he, bel⟩ => ?_
  subst he
  exact ⟨_, rfl, _, _, _, [], _, [], hW', trodAll_mk1 (shut_bool Try.underlying4 _), (trodAll_cons_mk (shut_string Try.underlying9 y0) (trodAll_cons_mk (shut_string Try.underlying9 y1) (trodAll_cons_mk (Below.trod laidOut (by kernel_rfl) (of_decide_eq_true (by kernel_rfl)) h2 bel lt2) trodAll_mk0))), rfl, bel.frame _, fun h => by cases h⟩
theorem over : Rows.objectUnlikeRow.holds Try.pinned (OpenSpec.ofChange Rows.objectUnlikeSpec) :=
  OpenClaim.holds_of_wide 5 Try.f5 rfl rfl rfl rfl rfl rfl rfl ⟨rfl, rfl, rfl, rfl, rfl⟩ rfl rfl rfl rfl rfl (by kernel_rfl) Try.func5 (by kernel_rfl)
    (of_decide_eq_true (by kernel_rfl)) (by unfold Func.isWrapper; first | (rw [if_pos (by decide +kernel)]; kernel_rfl) | (rw [if_neg (by decide +kernel)]; exact ⟨rfl, rfl⟩))
    (fun os started H enc _ => lifted os started H enc)
theorem proved : Rows.ObjectUnlikeSaid := over
#print axioms proved
end Go.Proofs.Ytnapcfpecpgdbaa.objectUnlike
namespace Go.Proofs.Ytnapcfpecpgdbaa
/-- The row, under a short name, for the claim. -/
theorem objectUnlike_holds : Rows.ObjectUnlikeSaid := objectUnlike.proved
end Go.Proofs.Ytnapcfpecpgdbaa
