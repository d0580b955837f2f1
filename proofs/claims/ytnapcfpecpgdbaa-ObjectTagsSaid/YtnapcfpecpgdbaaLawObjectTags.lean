/- The row of the law pollard/pollardlaw07.ObjectTags, out of its plain law and the printed walk; written by hand. Conditions: none. -/
import Derived.Test.YtnapcfpecpgdbaaRows
import Derived.Test.YtnapcfpecpgdbaaMx29
import Derived.Test.YtnapcfpecpgdbaaPureObjectTags
import Derived.WalkKit
import Derived.ProofKit
import Derived.OpenShut
import Derived.ShutString
import Derived.ChangeOld
import Derived.Below
import Derived.SizedLaws
import Derived.Lib.SmallJoins
namespace Go.Proofs.Ytnapcfpecpgdbaa.objectTags
open Go.ChangeShapes Go.WideShapes Go.ChangeAt Go.RowKit
open Go.ChangeMaps (open_string shut_string)
set_option linter.unusedVariables false
theorem own : ownKnob Try.prog.godebug = none := by kernel_rfl
theorem laidOut : laidOutB Try.prog = true := by kernel_rfl
set_option maxRecDepth 100000 in
theorem lifted (os : Os) (started : os.Started) (H : Type) (enc : TypeId × Value → H) :
    ReturnsInHanded {} Try.checked os 7 .any (Rows.objectTagsSpec.pre6 enc Try.prog Try.f7 Rows.objectTagsRow.domain false) (Rows.objectTagsSpec.post enc Try.prog Try.f7 false true false false) := by
  refine returnsInHanded_of_change_sized (C := Try.checked) own started (by kernel_rfl) Try.func7
    (ChangeSpec.witness6 (enc := enc) (C := Try.checked) false ⟨#[], #[.agg #[.string ByteArray.empty, .int .i64 0, .string ByteArray.empty, .string ByteArray.empty]], []⟩ 8 (by kernel_rfl) (by kernel_rfl) (by kernel_rfl) (by kernel_rfl)) ?_
  intro W base args ds gs before hval0 hW hcnd hsz0 _
  have hval : ∀ (j : Nat) t v, Try.f7.params[j]? = some t → args[j]? = some v → Value.okWide Try.prog W .any base t v := hval0
  have hW' := hW
  obtain ⟨p, q, hA0, hV, rfl, hfz, hnd⟩ := hW
  have hA : DataW.TrodAll enc Try.prog W 0 (fun _ => true) true Try.f7.params.toList args.toList ds p := hA0
  rw [Try.params7] at hA hval
  obtain ⟨v0, vs0, d0, ds0, p0, q0, hargs, rfl, rfl, h0, r0⟩ := trodAll_cons hA
  obtain ⟨rfl, rfl, rfl⟩ := trodAll_nil r0
  obtain rfl : args = #[v0] := by cases args; simp_all
  obtain ⟨rfl, rfl⟩ := trodVars_none hV
  have lt0 : ∀ x ∈ p0, x.block < W.heap.size := by obtain ⟨m, hm⟩ := h0; exact DataW.trod_lt m _ _ _ hm
  have hv0 := hval 0 39 v0 rfl rfl
  clear hA0 hval0 hsz0 hA
  obtain ⟨c0, c1, c2, c3, y0, y1, y2, y3, n, rfl, -, -, t0, t1, t2, t3⟩ := Go.Joins.open_agg4 Try.underlying39 (by kernel_rfl) (by kernel_rfl) hv0 h0
  obtain ⟨a0, e0, -, -⟩ := DataW.trod_string Try.underlying9 t0
  obtain ⟨a1, e1, -, -⟩ := DataW.trod_int Try.underlying3 t1
  obtain ⟨a2, e2, -, -⟩ := DataW.trod_string Try.underlying9 t2
  obtain ⟨a3, e3, -, -⟩ := DataW.trod_string Try.underlying9 t3
  obtain rfl : c0 = .string a0 := by injection e0
  obtain rfl : c1 = .int .i64 a1 := by injection e1
  obtain rfl : c2 = .string a2 := by injection e2
  obtain rfl : c3 = .string a3 := by injection e3
  obtain ⟨k, hP⟩ := Pure.ObjectTags a0 a1 a2 a3
  refine (M.pollardlaw07_ObjectTags.calls k a0 a1 a2 a3 true W hP).mono fun e W' ⟨he, bel⟩ => ?_
  subst he
  exact ⟨_, rfl, _, _, _, [], _, [], hW', trodAll_mk1 (shut_bool Try.underlying4 _), (trodAll_cons_mk (Below.trod laidOut (by kernel_rfl) (of_decide_eq_true (by kernel_rfl)) h0 bel lt0) trodAll_mk0), rfl, bel.frame _, fun h => by cases h⟩
theorem over : Rows.objectTagsRow.holds Try.pinned (OpenSpec.ofChange Rows.objectTagsSpec) :=
  OpenClaim.holds_of_wide 7 Try.f7 rfl rfl rfl rfl rfl rfl rfl ⟨rfl, rfl, rfl, rfl, rfl⟩ rfl rfl rfl rfl rfl (by kernel_rfl) Try.func7 (by kernel_rfl)
    (of_decide_eq_true (by kernel_rfl)) (by unfold Func.isWrapper; first | (rw [if_pos (by decide +kernel)]; kernel_rfl) | (rw [if_neg (by decide +kernel)]; exact ⟨rfl, rfl⟩))
    (fun os started H enc _ => lifted os started H enc)
theorem proved : Rows.ObjectTagsSaid := over
#print axioms proved
end Go.Proofs.Ytnapcfpecpgdbaa.objectTags
namespace Go.Proofs.Ytnapcfpecpgdbaa
/-- The row, under a short name, for the claim. -/
theorem objectTags_holds : Rows.ObjectTagsSaid := objectTags.proved
end Go.Proofs.Ytnapcfpecpgdbaa
