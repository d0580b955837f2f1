/- The row of the law pollard/pollardlaw18.DiffMost, out of its plain law and the printed walk; written by a program of this session. Conditions: none. -/
import Derived.Test.YtflogdjehghkpaaDoorRows
import Derived.Test.YtflogdjehghkpaaDoorMx8
import Derived.Test.YtflogdjehghkpaaDoorPureDiffMost
import Derived.Test.YtflogdjehghkpaaDoorPlOpen
import Derived.WalkKit
import Derived.ProofKit
import Derived.OpenShut
import Derived.ShutString
import Derived.ChangeOld
import Derived.Below
import Derived.SizedLaws
import Derived.LaidMore
import Derived.Lay
import Derived.SevenTiedAt
import Derived.Stop.Joined
import Derived.Test.YtflogdjehghkpaaDoorCards
import Derived.Test.YtflogdjehghkpaaDoorTie
import Derived.Test.YtflogdjehghkpaaDoorWSized
namespace Go.Proofs.YtflogdjehghkpaaDoor.diffMost
open Go.ChangeShapes Go.WideShapes Go.ChangeAt Go.RowKit Go.Proofs.YtflogdjehghkpaaDoor.Pl Go.Proofs.YtflogdjehghkpaaDoor.M Go.Proofs.YtflogdjehghkpaaDoorW.PrintWords Go.Proofs.YtflogdjehghkpaaDoorW.PrintLast
open Go.ChangeMaps (open_string shut_string)
set_option linter.unusedVariables false
theorem own : ownKnob Tryd.prog.godebug = none := by kernel_rfl
theorem laidOut : laidOutB Tryd.prog = true := by kernel_rfl
set_option maxRecDepth 100000 in
theorem lifted (os : Os) (started : os.Started) (H : Type) (enc : TypeId × Value → H) :
    ReturnsInHanded {} Tryd.checked os 5 .any (fun w args => (Rows.diffMostSpec.pre enc Tryd.prog Tryd.f5 Rows.diffMostRow.domain false w args ∧ laidMetH Tryd.prog Rows.diffMostRow.laid w) ∧ sizedMet enc Tryd.prog Tryd.f5 (OpenSpec.ofChange Rows.diffMostSpec) false w args)
      (Rows.diffMostSpec.post enc Tryd.prog Tryd.f5 false true false false) := by
  refine returnsInHanded_of_change_and (C := Tryd.checked) (X := (fun w _ => laidMetH Tryd.prog Rows.diffMostRow.laid w)) (fun _ _ _ hh h => h.of_heap hh) own started (by kernel_rfl) Tryd.func5
    (ChangeSpec.witness_shaped (enc := enc) (C := Tryd.checked) (os := os) (X := (fun w _ => laidMetH Tryd.prog Rows.diffMostRow.laid w)) false (World.laidAll Tryd.prog os Rows.diffMostRow.laid) #[.slice none 0 0, .slice none 0 0] 8 (World.laidAll_os _ _ _)
      (World.shaped_of_ZipB (by kernel_rfl) (by kernel_rfl)) (by kernel_rfl) (by kernel_rfl) (by kernel_rfl)
      (by rw [MakeChecks.laidMetH_plain _ _ _ (by kernel_rfl)]; exact laidMet_laidAll _ (by kernel_rfl) (by kernel_rfl))) ?_
  intro W base args ds gs before hval0 hW hcnd hsz0 hL _
  have hsz : (DataW.weightsEach Tryd.prog (Tryd.f5.params.toList ++ Rows.diffMostSpec.plain.varTypes Tryd.prog) (ds ++ gs)).all (· ≤ reachBytes) = true := hsz0
  have hval : ∀ (j : Nat) t v, Tryd.f5.params[j]? = some t → args[j]? = some v → Value.okWide Tryd.prog W .any base t v := hval0
  have hW' := hW
  obtain ⟨p, q, hA0, hV, rfl, hfz, hnd⟩ := hW
  have hA : DataW.TrodAll enc Tryd.prog W 0 (fun _ => true) true Tryd.f5.params.toList args.toList ds p := hA0
  rw [Tryd.params5] at hA hval hsz
  obtain ⟨v0, vs0, d0, ds0, p0, q0, hargs, rfl, rfl, h0, r0⟩ := trodAll_cons hA
  obtain ⟨v1, vs1, d1, ds1, p1, q1, rfl, rfl, rfl, h1, r1⟩ := trodAll_cons r0
  obtain ⟨rfl, rfl, rfl⟩ := trodAll_nil r1
  obtain rfl : args = #[v0, v1] := by cases args; simp_all
  obtain ⟨rfl, rfl⟩ := trodVars_none hV
  obtain ⟨a0, len0, cap0, rfl⟩ := okWide_slice Tryd.underlying22 (hval 0 22 v0 rfl rfl)
  have lt0 : ∀ x ∈ p0, x.block < W.heap.size := by obtain ⟨m, hm⟩ := h0; exact DataW.trod_lt m _ _ _ hm
  have g0 : ∀ k ∈ d0.weights Tryd.prog 22, k ≤ reachBytes := fun k hk => by
    have := List.all_eq_true.1 hsz k (DataW.weights_mem_each (j := 0) (t := 22) (d := d0) rfl rfl k hk)
    simpa using this
  obtain ⟨l0, rfl, hc0, hr0, hq0⟩ := Opn.arg (P := Tryd.prog) (t := 22) (d := Kd.string) (Opn.slice Tryd.underlying22 (by kernel_rfl) (by decide +kernel) (Opn.string Tryd.underlying9)) rfl h0 g0
  obtain ⟨a1, len1, cap1, rfl⟩ := okWide_slice Tryd.underlying22 (hval 1 22 v1 rfl rfl)
  have lt1 : ∀ x ∈ p1, x.block < W.heap.size := by obtain ⟨m, hm⟩ := h1; exact DataW.trod_lt m _ _ _ hm
  have g1 : ∀ k ∈ d1.weights Tryd.prog 22, k ≤ reachBytes := fun k hk => by
    have := List.all_eq_true.1 hsz k (DataW.weights_mem_each (j := 1) (t := 22) (d := d1) rfl rfl k hk)
    simpa using this
  obtain ⟨l1, rfl, hc1, hr1, hq1⟩ := Opn.arg (P := Tryd.prog) (t := 22) (d := Kd.string) (Opn.slice Tryd.underlying22 (by kernel_rfl) (by decide +kernel) (Opn.string Tryd.underlying9)) rfl h1 g1
  clear hA0 hval0 hsz0 hsz
  obtain ⟨k, hP⟩ := Pure.DiffMost l0 l1 hq0.1 hq0.2 hq1.1 hq1.2
  refine (pollardlaw18_DiffMost.calls k _ _ l0 _ _ l1 true W hr0 hc0 hr1 hc1 hP).mono fun e W' ⟨he, bel⟩ => ?_
  subst he
  exact ⟨_, rfl, _, _, _, [], _, [], hW', trodAll_mk1 (shut_bool Tryd.underlying4 _), (trodAll_cons_mk (Below.trod laidOut (by kernel_rfl) (of_decide_eq_true (by kernel_rfl)) h0 bel lt0) (trodAll_cons_mk (Below.trod laidOut (by kernel_rfl) (of_decide_eq_true (by kernel_rfl)) h1 bel lt1) trodAll_mk0)), rfl, bel.frame _, fun h => by cases h⟩
theorem over : Rows.diffMostRow.holds Tryd.pinned (OpenSpec.ofChange Rows.diffMostSpec) :=
  OpenClaim.holds_of_wide 5 Tryd.f5 rfl rfl rfl rfl rfl rfl rfl ⟨rfl, rfl, rfl, rfl, rfl⟩ rfl rfl rfl rfl rfl (by kernel_rfl) Tryd.func5 (by kernel_rfl)
    (of_decide_eq_true (by kernel_rfl)) (by unfold Func.isWrapper; first | (rw [if_pos (by decide +kernel)]; kernel_rfl) | (rw [if_neg (by decide +kernel)]; exact ⟨rfl, rfl⟩))
    (fun os started H enc _ => lifted os started H enc)
theorem proved : Rows.DiffMostCardSaid :=
  Claim7.holds_tied_plain_at .later [] [.data, .pinned] true (true, "186fef7bd0deabe8f426580f3861e665d2eda5f80d47e6b4e52de23a00ba43ef") false over (fun _ h => by cases h) (by kernel_rfl) (fun _ h => by cases h) diffMost_row_tie rfl ⟨rfl, rfl⟩ (by kernel_rfl) rfl
    (fun f fn hf hfn => by
      obtain rfl : f = 5 := Option.some.inj ((show Tryd.prog.funcNamed "pollard/pollardlaw18.DiffMost" = some 5 by kernel_rfl).symm.trans hf) |>.symm
      obtain rfl : fn = Tryd.f5 := (Option.some.inj (Tryd.func5.symm.trans hfn)).symm
      exact ⟨by kernel_rfl, fun j t ht => by
        rw [Tryd.params5] at ht
        have hm : t ∈ [22, 22] := by simpa using Array.mem_of_getElem? ht
        have hall : ([22, 22].all fun u => !Tryd.prog.wantsStandIn u) = true := by kernel_rfl
        exact (show Tryd.prog.wantsStandIn t = false by simpa using List.all_eq_true.1 hall t hm)⟩)
    (by kernel_rfl)
#print axioms proved
end Go.Proofs.YtflogdjehghkpaaDoor.diffMost
namespace Go.Proofs.YtflogdjehghkpaaDoor
/-- The row, under a short name, for the claim. -/
theorem diffMost_holds : Rows.DiffMostCardSaid := diffMost.proved
end Go.Proofs.YtflogdjehghkpaaDoor
