/- The row of the law pollard/pollardlaw07.ObjectCommits, out of its plain law and the printed walk; written by a program of this session. Conditions: none. -/
import Derived.Test.YtnapcfpecpgdbaaDoorRows
import Derived.Test.YtnapcfpecpgdbaaDoorMx34
import Derived.Test.YtnapcfpecpgdbaaDoorPureObjectCommits
import Derived.Test.YtnapcfpecpgdbaaDoorPlOpen
import Derived.WalkKit
import Derived.ProofKit
import Derived.OpenShut
import Derived.ShutString
import Derived.ChangeOld
import Derived.Below
import Derived.SizedLaws
import Derived.LaidMore
import Derived.Lay
import Derived.SevenTiedAt
import Derived.Stop.Joined
import Derived.Test.YtnapcfpecpgdbaaDoorCards
import Derived.Test.YtnapcfpecpgdbaaDoorTie
import Derived.Test.YtnapcfpecpgdbaaDoorWords
namespace Go.Proofs.YtnapcfpecpgdbaaDoor.objectCommits
open Go.ChangeShapes Go.WideShapes Go.ChangeAt Go.RowKit Go.Proofs.YtnapcfpecpgdbaaDoor.Pl Go.Proofs.YtnapcfpecpgdbaaDoor.M Go.Proofs.YtnapcfpecpgdbaaDoorW.PrintWords Go.Proofs.YtnapcfpecpgdbaaDoorW.PrintLast
open Go.ChangeMaps (open_string shut_string)
set_option linter.unusedVariables false
set_option linter.unusedSimpArgs false
theorem own : ownKnob Tryd.prog.godebug = none := by kernel_rfl
theorem laidOut : laidOutB Tryd.prog = true := by kernel_rfl
theorem five (cs : Array Value) (h : cs.size = 5) : ∃ c0 c1 c2 c3 c4, cs = #[c0, c1, c2, c3, c4] := by
  obtain ⟨l⟩ := cs
  match l, h with
  | [c0, c1, c2, c3, c4], _ => exact ⟨c0, c1, c2, c3, c4, rfl⟩
theorem u64_wf {n : Int} (h : (Lit.int .u64 n).wf = true) : 0 ≤ n ∧ n < 18446744073709551616 := by
  simp [Lit.wf, IntKind.min, IntKind.max, IntKind.signed, IntKind.bits] at h
  omega
abbrev kd5 := Kd.pair Kd.string (Kd.pair (Kd.slice 9 Kd.string) (Kd.pair Kd.string (Kd.pair (Kd.int .u64) Kd.string)))
set_option maxRecDepth 100000 in
theorem opn (W : World) : Opn Tryd.prog W 25 kd5 (fun x => x.1.size ≤ 140737488351232 ∧ (x.2.1.length * Tryd.prog.bytesOf 9 ≤ 140737488351232 ∧ ∀ y ∈ x.2.1, y.size ≤ 140737488351232) ∧ x.2.2.1.size ≤ 140737488351232 ∧ (Lit.int .u64 x.2.2.2.1).wf = true ∧ x.2.2.2.2.size ≤ 140737488351232) :=
  Opn.struct Tryd.underlying25 (by kernel_rfl) (OpnEach.cons rfl (by kernel_rfl) (Opn.string Tryd.underlying9) (OpnEach.cons rfl (by kernel_rfl) (Opn.slice Tryd.underlying22 (by kernel_rfl) (by decide +kernel) (Opn.string Tryd.underlying9)) (OpnEach.cons rfl (by kernel_rfl) (Opn.string Tryd.underlying9) (OpnEach.cons rfl (by kernel_rfl) (Opn.int Tryd.underlying23) (OpnEach.one rfl (by kernel_rfl) (Opn.string Tryd.underlying9))))))
theorem cells5 (W : World) (c0 c1 c2 c3 c4 : Value) (a0 : ByteArray) (l1 : List ByteArray) (a2 : ByteArray) (a3 : Int) (a4 : ByteArray) (h : kd5.K W (a0, l1, a2, a3, a4) (Value.agg #[c0, c1, c2, c3, c4]).cells.toList) : ∃ A n, l1.length ≤ n ∧ Kd.C Kd.string W A l1.length l1 ∧ c0 = .string a0 ∧ c1 = .slice A l1.length n ∧ c2 = .string a2 ∧ c3 = .int .u64 a3 ∧ c4 = .string a4 := by
  obtain ⟨d0, r0, e0, h0, d1, r1, e1, ⟨A, n, h1, hn, hC⟩, d2, r2, e2, h2, d3, r3, e3, h3, h4⟩ := h
  have e : [c0, c1, c2, c3, c4] = [.string a0, .slice A l1.length n, .string a2, .int .u64 a3, .string a4] := by
    have e5 : [c0, c1, c2, c3, c4] = d0 ++ r0 := e0
    rw [e5, e1, e2, e3, h0, h1, h2, h3, h4]
    rfl
  simp only [List.cons.injEq, and_true] at e
  exact ⟨A, n, hn, hC, e⟩
set_option maxHeartbeats 1000000 in
set_option maxRecDepth 100000 in
theorem lifted (os : Os) (started : os.Started) (H : Type) (enc : TypeId × Value → H) :
    ReturnsInHanded {} Tryd.checked os 4 .any (fun w args => (Rows.objectCommitsSpec.pre enc Tryd.prog Tryd.f4 Rows.objectCommitsRow.domain false w args ∧ laidMetH Tryd.prog Rows.objectCommitsRow.laid w) ∧ sizedMet enc Tryd.prog Tryd.f4 (OpenSpec.ofChange Rows.objectCommitsSpec) false w args)
      (Rows.objectCommitsSpec.post enc Tryd.prog Tryd.f4 false true false false) := by
  refine returnsInHanded_of_change_and (C := Tryd.checked) (X := (fun w _ => laidMetH Tryd.prog Rows.objectCommitsRow.laid w)) (fun _ _ _ hh h => h.of_heap hh) own started (by kernel_rfl) Tryd.func4
    (ChangeSpec.witness_shaped (enc := enc) (C := Tryd.checked) (os := os) (X := (fun w _ => laidMetH Tryd.prog Rows.objectCommitsRow.laid w)) false (World.laidAll Tryd.prog os Rows.objectCommitsRow.laid) #[.agg #[.string ByteArray.empty, .slice none 0 0, .string ByteArray.empty, .int .u64 0, .string ByteArray.empty]] 8 (World.laidAll_os _ _ _)
      (World.shaped_of_ZipB (by kernel_rfl) (by kernel_rfl)) (by kernel_rfl) (by kernel_rfl) (by kernel_rfl)
      (by rw [MakeChecks.laidMetH_plain _ _ _ (by kernel_rfl)]; exact laidMet_laidAll _ (by kernel_rfl) (by kernel_rfl))) ?_
  intro W base args ds gs before hval0 hW hcnd hsz0 hL _
  have hsz : (DataW.weightsEach Tryd.prog (Tryd.f4.params.toList ++ Rows.objectCommitsSpec.plain.varTypes Tryd.prog) (ds ++ gs)).all (· ≤ reachBytes) = true := hsz0
  have hval : ∀ (j : Nat) t v, Tryd.f4.params[j]? = some t → args[j]? = some v → Value.okWide Tryd.prog W .any base t v := hval0
  have hW' := hW
  obtain ⟨p, q, hA0, hV, rfl, hfz, hnd⟩ := hW
  have hA : DataW.TrodAll enc Tryd.prog W 0 (fun _ => true) true Tryd.f4.params.toList args.toList ds p := hA0
  rw [Tryd.params4] at hA hval hsz
  obtain ⟨v0, vs0, d0, ds0, p0, q0, hargs, rfl, rfl, h0, r0⟩ := trodAll_cons hA
  obtain ⟨rfl, rfl, rfl⟩ := trodAll_nil r0
  obtain rfl : args = #[v0] := by cases args; simp_all
  obtain ⟨rfl, rfl⟩ := trodVars_none hV
  have lt0 : ∀ x ∈ p0, x.block < W.heap.size := by obtain ⟨m, hm⟩ := h0; exact DataW.trod_lt m _ _ _ hm
  have hv0 := hval 0 25 v0 rfl rfl
  have g0 : ∀ k ∈ d0.weights Tryd.prog 25, k ≤ reachBytes := fun k hk => by
    have := List.all_eq_true.1 hsz k (DataW.weights_mem_each (j := 0) (t := 25) (d := d0) rfl rfl k hk)
    simpa using this
  clear hA0 hval0 hsz0 hsz hA hval r0
  obtain ⟨cs, rfl, hcs⟩ := okWide_struct Tryd.underlying25 hv0
  rw [show Tryd.prog.cellsOf 25 = 5 by kernel_rfl] at hcs
  obtain ⟨c0, c1, c2, c3, c4, rfl⟩ := five cs hcs
  obtain ⟨m, hm⟩ := id h0
  obtain ⟨x, hK, hQ⟩ := (opn W).get enc _ _ _ _ _ _ hm g0
  obtain ⟨a0, l1, a2, a3, a4⟩ := x
  obtain ⟨A1, n1, hc1, hC1, e0, e1, e2, e3, e4⟩ := cells5 W c0 c1 c2 c3 c4 a0 l1 a2 a3 a4 hK
  subst e0 e1 e2 e3 e4
  have hw3 := hQ.2.2.2.1
  have hr3 := u64_wf hw3
  obtain ⟨k, hP⟩ := Pure.ObjectCommits a0 l1 a2 a3 a4 hr3.1 hr3.2
  refine (pollardlaw07_ObjectCommits.calls k a0 A1 n1 l1 a2 a3 a4 true W hC1 hc1 hP).mono fun e W' ⟨he, bel⟩ => ?_
  subst he
  exact ⟨_, rfl, _, _, _, [], _, [], hW', trodAll_mk1 (shut_bool Tryd.underlying4 _), (trodAll_cons_mk (Below.trod laidOut (by kernel_rfl) (of_decide_eq_true (by kernel_rfl)) h0 bel lt0) trodAll_mk0), rfl, bel.frame _, fun h => by cases h⟩
theorem over : Rows.objectCommitsRow.holds Tryd.pinned (OpenSpec.ofChange Rows.objectCommitsSpec) :=
  OpenClaim.holds_of_wide 4 Tryd.f4 rfl rfl rfl rfl rfl rfl rfl ⟨rfl, rfl, rfl, rfl, rfl⟩ rfl rfl rfl rfl rfl (by kernel_rfl) Tryd.func4 (by kernel_rfl)
    (of_decide_eq_true (by kernel_rfl)) (by unfold Func.isWrapper; first | (rw [if_pos (by decide +kernel)]; kernel_rfl) | (rw [if_neg (by decide +kernel)]; exact ⟨rfl, rfl⟩))
    (fun os started H enc _ => lifted os started H enc)
theorem proved : Rows.ObjectCommitsCardSaid :=
  Claim7.holds_tied_plain_at .later [] [.data, .pinned] true (true, "aed1462636f1b774f0c133fc0a48f38d37d2140067555ff6300ac85b0684f72a") false over (fun _ h => by cases h) (by kernel_rfl) (fun _ h => by cases h) objectCommits_row_tie rfl ⟨rfl, rfl⟩ (by kernel_rfl) rfl
    (fun f fn hf hfn => by
      obtain rfl : f = 4 := Option.some.inj ((show Tryd.prog.funcNamed "pollard/pollardlaw07.ObjectCommits" = some 4 by kernel_rfl).symm.trans hf) |>.symm
      obtain rfl : fn = Tryd.f4 := (Option.some.inj (Tryd.func4.symm.trans hfn)).symm
      exact ⟨by kernel_rfl, fun j t ht => by
        rw [Tryd.params4] at ht
        have hm : t ∈ [25] := by simpa using Array.mem_of_getElem? ht
        have hall : ([25].all fun u => !Tryd.prog.wantsStandIn u) = true := by kernel_rfl
        exact (show Tryd.prog.wantsStandIn t = false by simpa using List.all_eq_true.1 hall t hm)⟩)
    (by kernel_rfl)
#print axioms proved
end Go.Proofs.YtnapcfpecpgdbaaDoor.objectCommits
namespace Go.Proofs.YtnapcfpecpgdbaaDoor
/-- The row, under a short name, for the claim. -/
theorem objectCommits_holds : Rows.ObjectCommitsCardSaid := objectCommits.proved
end Go.Proofs.YtnapcfpecpgdbaaDoor
