/- The row of the law pollard/pollardlaw13.RefsApply, out of its plain law and the printed walk; written by a program of this session. Conditions: none. -/
import Derived.Test.YtgepbdkbleapaaaRows
import Derived.Test.YtgepbdkbleapaaaMx18
import Derived.Test.YtgepbdkbleapaaaPureRefsApply
import Derived.Test.YtgepbdkbleapaaaPlOpenA
import Derived.WalkKit
import Derived.ProofKit
import Derived.OpenShut
import Derived.ShutString
import Derived.ChangeOld
import Derived.Below
import Derived.SizedLaws
import Derived.Test.YtgepbdkbleapaaaWords
namespace Go.Proofs.Ytgepbdkbleapaaa.refsApply
open Go.ChangeShapes Go.WideShapes Go.ChangeAt Go.RowKit Go.Proofs.Ytgepbdkbleapaaa.Pl Go.Proofs.Ytgepbdkbleapaaa.M Go.Proofs.YtgepbdkbleapaaaW.PrintWords Go.Proofs.YtgepbdkbleapaaaW.PrintLast
open Go.ChangeMaps (open_string shut_string)
set_option linter.unusedVariables false
set_option linter.unusedSimpArgs false
theorem own : ownKnob Try.prog.godebug = none := by kernel_rfl
theorem laidOut : laidOutB Try.prog = true := by kernel_rfl
theorem two (cs : Array Value) (h : cs.size = 2) : ∃ c0 c1, cs = #[c0, c1] := by
  obtain ⟨l⟩ := cs
  match l, h with
  | [c0, c1], _ => exact ⟨c0, c1, rfl⟩
abbrev kd2 := Kd.pair Kd.string (Kd.slice 50 k50)
set_option maxRecDepth 100000 in
theorem opn (W : World) : Opn Try.prog W 24 kd2 (fun x => x.1.size ≤ 140737488351232 ∧ (x.2.length * Try.prog.bytesOf 50 ≤ 140737488351232 ∧ ∀ y ∈ x.2, y.f0.size ≤ 140737488351232 ∧ y.f1.size ≤ 140737488351232)) :=
  Opn.struct Try.underlying24 (by kernel_rfl) (OpnEach.cons rfl (by kernel_rfl) (Opn.string Try.underlying9) (OpnEach.one rfl (by kernel_rfl) (Opn.slice Try.underlying22 (by kernel_rfl) (by decide +kernel) (Opn.iso (fun p => ⟨p.1, p.2⟩) (fun _ => rfl) (Opn.struct Try.underlying50 (by kernel_rfl) (OpnEach.cons rfl (by kernel_rfl) (Opn.string Try.underlying9) (OpnEach.one rfl (by kernel_rfl) (Opn.string Try.underlying9))))))))
theorem cells2 (W : World) (c0 c1 : Value) (a0 : ByteArray) (l1 : List S50) (h : kd2.K W (a0, l1) (Value.agg #[c0, c1]).cells.toList) : ∃ A n, l1.length ≤ n ∧ Kd.C k50 W A l1.length l1 ∧ c0 = .string a0 ∧ c1 = .slice A l1.length n := by
  obtain ⟨d0, r0, e0, h0, ⟨A, n, h1, hn, hC⟩⟩ := h
  have e : [c0, c1] = [.string a0, .slice A l1.length n] := by
    have e5 : [c0, c1] = d0 ++ r0 := e0
    rw [e5, h0, h1]
    rfl
  simp only [List.cons.injEq, and_true] at e
  exact ⟨A, n, hn, hC, e⟩
set_option maxRecDepth 100000 in
theorem lifted (os : Os) (started : os.Started) (H : Type) (enc : TypeId × Value → H) :
    ReturnsInHanded {} Try.checked os 3 .any (Rows.refsApplySpec.pre6 enc Try.prog Try.f3 Rows.refsApplyRow.domain false) (Rows.refsApplySpec.post enc Try.prog Try.f3 false true false false) := by
  refine returnsInHanded_of_change_sized (C := Try.checked) own started (by kernel_rfl) Try.func3
    (ChangeSpec.witness6 (enc := enc) (C := Try.checked) false ⟨#[], #[.agg #[.string ByteArray.empty, .slice none 0 0], .slice none 0 0, .slice none 0 0], []⟩ 8 (by kernel_rfl) (by kernel_rfl) (by kernel_rfl) (by kernel_rfl)) ?_
  intro W base args ds gs before hval0 hW hcnd hsz0 _
  have hsz : (DataW.weightsEach Try.prog (Try.f3.params.toList ++ Rows.refsApplySpec.plain.varTypes Try.prog) (ds ++ gs)).all (· ≤ reachBytes) = true := hsz0
  have hval : ∀ (j : Nat) t v, Try.f3.params[j]? = some t → args[j]? = some v → Value.okWide Try.prog W .any base t v := hval0
  have hW' := hW
  obtain ⟨p, q, hA0, hV, rfl, hfz, hnd⟩ := hW
  have hA : DataW.TrodAll enc Try.prog W 0 (fun _ => true) true Try.f3.params.toList args.toList ds p := hA0
  rw [Try.params3] at hA hval hsz
  obtain ⟨v0, vs0, d0, ds0, p0, q0, hargs, rfl, rfl, h0, r0⟩ := trodAll_cons hA
  obtain ⟨v1, vs1, d1, ds1, p1, q1, rfl, rfl, rfl, h1, r1⟩ := trodAll_cons r0
  obtain ⟨v2, vs2, d2, ds2, p2, q2, rfl, rfl, rfl, h2, r2⟩ := trodAll_cons r1
  obtain ⟨rfl, rfl, rfl⟩ := trodAll_nil r2
  obtain rfl : args = #[v0, v1, v2] := by cases args; simp_all
  obtain ⟨rfl, rfl⟩ := trodVars_none hV
  have lt0 : ∀ x ∈ p0, x.block < W.heap.size := by obtain ⟨m, hm⟩ := h0; exact DataW.trod_lt m _ _ _ hm
  have hv0 := hval 0 24 v0 rfl rfl
  have g0 : ∀ k ∈ d0.weights Try.prog 24, k ≤ reachBytes := fun k hk => by
    have := List.all_eq_true.1 hsz k (DataW.weights_mem_each (j := 0) (t := 24) (d := d0) rfl rfl k hk)
    simpa using this
  obtain ⟨cs, rfl, hcs⟩ := okWide_struct Try.underlying24 hv0
  rw [show Try.prog.cellsOf 24 = 2 by kernel_rfl] at hcs
  obtain ⟨c0, c1, rfl⟩ := two cs hcs
  obtain ⟨m, hm⟩ := id h0
  obtain ⟨x, hK, hQ⟩ := (opn W).get enc _ _ _ _ _ _ hm g0
  obtain ⟨a0, l0⟩ := x
  obtain ⟨A0, n0, hc0, hr0, e0, e1⟩ := cells2 W c0 c1 a0 l0 hK
  subst e0 e1
  obtain ⟨a1, len1, cap1, rfl⟩ := okWide_slice Try.underlying25 (hval 1 25 v1 rfl rfl)
  have lt1 : ∀ x ∈ p1, x.block < W.heap.size := by obtain ⟨m, hm⟩ := h1; exact DataW.trod_lt m _ _ _ hm
  have g1 : ∀ k ∈ d1.weights Try.prog 25, k ≤ reachBytes := fun k hk => by
    have := List.all_eq_true.1 hsz k (DataW.weights_mem_each (j := 1) (t := 25) (d := d1) rfl rfl k hk)
    simpa using this
  obtain ⟨l1, rfl, hc1, hr1, hq1⟩ := Opn.arg (P := Try.prog) (t := 25) (d := k34) (Opn.slice Try.underlying25 (by kernel_rfl) (by decide +kernel) (Opn.iso (fun p => ⟨p.1, p.2.1, p.2.2.1, p.2.2.2⟩) (fun _ => rfl) (Opn.struct Try.underlying34 (by kernel_rfl) (OpnEach.cons rfl (by kernel_rfl) (Opn.string Try.underlying9) (OpnEach.cons rfl (by kernel_rfl) (Opn.string Try.underlying9) (OpnEach.cons rfl (by kernel_rfl) (Opn.string Try.underlying9) (OpnEach.one rfl (by kernel_rfl) (Opn.bool Try.underlying4)))))))) rfl h1 g1
  obtain ⟨a2, len2, cap2, rfl⟩ := okWide_slice Try.underlying26 (hval 2 26 v2 rfl rfl)
  have lt2 : ∀ x ∈ p2, x.block < W.heap.size := by obtain ⟨m, hm⟩ := h2; exact DataW.trod_lt m _ _ _ hm
  have g2 : ∀ k ∈ d2.weights Try.prog 26, k ≤ reachBytes := fun k hk => by
    have := List.all_eq_true.1 hsz k (DataW.weights_mem_each (j := 2) (t := 26) (d := d2) rfl rfl k hk)
    simpa using this
  obtain ⟨l2, rfl, hc2, hr2, hq2⟩ := Opn.arg (P := Try.prog) (t := 26) (d := k37) (Opn.slice Try.underlying26 (by kernel_rfl) (by decide +kernel) (Opn.iso (fun p => ⟨p.1, p.2⟩) (fun _ => rfl) (Opn.array2 Try.underlying37 (by kernel_rfl) (by kernel_rfl) (Opn.string Try.underlying9)))) rfl h2 g2
  clear hA0 hval0 hsz0 hsz
  obtain ⟨k, hP⟩ := Pure.RefsApply a0 l0 l1 l2 hQ.1 hQ.2.2 (fun x hx => (hq1.2 x hx).1)
  refine (pollardlaw13_RefsApply.calls k a0 A0 n0 l0 _ _ l1 _ _ l2 true W hr0 hc0 hr1 hc1 hr2 hc2 hP).mono fun e W' ⟨he, bel⟩ => ?_
  subst he
  exact ⟨_, rfl, _, _, _, [], _, [], hW', trodAll_mk1 (shut_bool Try.underlying4 _), (trodAll_cons_mk (Below.trod laidOut (by kernel_rfl) (of_decide_eq_true (by kernel_rfl)) h0 bel lt0) (trodAll_cons_mk (Below.trod laidOut (by kernel_rfl) (of_decide_eq_true (by kernel_rfl)) h1 bel lt1) (trodAll_cons_mk (Below.trod laidOut (by kernel_rfl) (of_decide_eq_true (by kernel_rfl)) h2 bel lt2) trodAll_mk0))), rfl, bel.frame _, fun h => by cases h⟩
theorem over : Rows.refsApplyRow.holds Try.pinned (OpenSpec.ofChange Rows.refsApplySpec) :=
  OpenClaim.holds_of_wide 3 Try.f3 rfl rfl rfl rfl rfl rfl rfl ⟨rfl, rfl, rfl, rfl, rfl⟩ rfl rfl rfl rfl rfl (by kernel_rfl) Try.func3 (by kernel_rfl)
    (of_decide_eq_true (by kernel_rfl)) (by unfold Func.isWrapper; first | (rw [if_pos (by decide +kernel)]; kernel_rfl) | (rw [if_neg (by decide +kernel)]; exact ⟨rfl, rfl⟩))
    (fun os started H enc _ => lifted os started H enc)
theorem proved : Rows.RefsApplySaid := over
#print axioms proved
end Go.Proofs.Ytgepbdkbleapaaa.refsApply
namespace Go.Proofs.Ytgepbdkbleapaaa
/-- The row, under a short name, for the claim. -/
theorem refsApply_holds : Rows.RefsApplySaid := refsApply.proved
end Go.Proofs.Ytgepbdkbleapaaa
