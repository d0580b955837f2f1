/- The row of the law pollard/pollardlaw13.RefsBytes, out of its plain law and the printed walk; written by a program of this session. Conditions: none. -/
import Derived.Test.YtgepbdkbleapaaaRows
import Derived.Test.YtgepbdkbleapaaaMx17
import Derived.Test.YtgepbdkbleapaaaPureRefsBytes
import Derived.Test.YtgepbdkbleapaaaPlOpen
import Derived.WalkKit
import Derived.ProofKit
import Derived.OpenShut
import Derived.ShutString
import Derived.ChangeOld
import Derived.Below
import Derived.SizedLaws
import Derived.Test.YtgepbdkbleapaaaWords
namespace Go.Proofs.Ytgepbdkbleapaaa.refsBytes
open Go.ChangeShapes Go.WideShapes Go.ChangeAt Go.RowKit Go.Proofs.Ytgepbdkbleapaaa.Pl Go.Proofs.Ytgepbdkbleapaaa.M Go.Proofs.YtgepbdkbleapaaaW.PrintWords Go.Proofs.YtgepbdkbleapaaaW.PrintLast
open Go.ChangeMaps (open_string shut_string)
set_option linter.unusedVariables false
set_option linter.unusedSimpArgs false
theorem own : ownKnob Try.prog.godebug = none := by kernel_rfl
theorem laidOut : laidOutB Try.prog = true := by kernel_rfl
theorem two (cs : Array Value) (h : cs.size = 2) : ∃ c0 c1, cs = #[c0, c1] := by
  obtain ⟨l⟩ := cs
  match l, h with
  | [c0, c1], _ => exact ⟨c0, c1, rfl⟩
abbrev kd2 := Kd.pair Kd.string (Kd.slice 50 k50)
set_option maxRecDepth 100000 in
theorem opn (W : World) : Opn Try.prog W 24 kd2 (fun x => x.1.size ≤ 140737488351232 ∧ (x.2.length * Try.prog.bytesOf 50 ≤ 140737488351232 ∧ ∀ y ∈ x.2, y.f0.size ≤ 140737488351232 ∧ y.f1.size ≤ 140737488351232)) :=
  Opn.struct Try.underlying24 (by kernel_rfl) (OpnEach.cons rfl (by kernel_rfl) (Opn.string Try.underlying9) (OpnEach.one rfl (by kernel_rfl) (Opn.slice Try.underlying22 (by kernel_rfl) (by decide +kernel) (Opn.iso (fun p => ⟨p.1, p.2⟩) (fun _ => rfl) (Opn.struct Try.underlying50 (by kernel_rfl) (OpnEach.cons rfl (by kernel_rfl) (Opn.string Try.underlying9) (OpnEach.one rfl (by kernel_rfl) (Opn.string Try.underlying9))))))))
theorem cells2 (W : World) (c0 c1 : Value) (a0 : ByteArray) (l1 : List S50) (h : kd2.K W (a0, l1) (Value.agg #[c0, c1]).cells.toList) : ∃ A n, l1.length ≤ n ∧ Kd.C k50 W A l1.length l1 ∧ c0 = .string a0 ∧ c1 = .slice A l1.length n := by
  obtain ⟨d0, r0, e0, h0, ⟨A, n, h1, hn, hC⟩⟩ := h
  have e : [c0, c1] = [.string a0, .slice A l1.length n] := by
    have e5 : [c0, c1] = d0 ++ r0 := e0
    rw [e5, h0, h1]
    rfl
  simp only [List.cons.injEq, and_true] at e
  exact ⟨A, n, hn, hC, e⟩
set_option maxRecDepth 100000 in
theorem lifted (os : Os) (started : os.Started) (H : Type) (enc : TypeId × Value → H) :
    ReturnsInHanded {} Try.checked os 5 .any (Rows.refsBytesSpec.pre6 enc Try.prog Try.f5 Rows.refsBytesRow.domain false) (Rows.refsBytesSpec.post enc Try.prog Try.f5 false true false false) := by
  refine returnsInHanded_of_change_sized (C := Try.checked) own started (by kernel_rfl) Try.func5
    (ChangeSpec.witness6 (enc := enc) (C := Try.checked) false ⟨#[], #[.agg #[.string ByteArray.empty, .slice none 0 0], .string ByteArray.empty], []⟩ 8 (by kernel_rfl) (by kernel_rfl) (by kernel_rfl) (by kernel_rfl)) ?_
  intro W base args ds gs before hval0 hW hcnd hsz0 _
  have hsz : (DataW.weightsEach Try.prog (Try.f5.params.toList ++ Rows.refsBytesSpec.plain.varTypes Try.prog) (ds ++ gs)).all (· ≤ reachBytes) = true := hsz0
  have hval : ∀ (j : Nat) t v, Try.f5.params[j]? = some t → args[j]? = some v → Value.okWide Try.prog W .any base t v := hval0
  have hW' := hW
  obtain ⟨p, q, hA0, hV, rfl, hfz, hnd⟩ := hW
  have hA : DataW.TrodAll enc Try.prog W 0 (fun _ => true) true Try.f5.params.toList args.toList ds p := hA0
  rw [Try.params5] at hA hval hsz
  obtain ⟨v0, vs0, d0, ds0, p0, q0, hargs, rfl, rfl, h0, r0⟩ := trodAll_cons hA
  obtain ⟨v1, vs1, d1, ds1, p1, q1, rfl, rfl, rfl, h1, r1⟩ := trodAll_cons r0
  obtain ⟨rfl, rfl, rfl⟩ := trodAll_nil r1
  obtain rfl : args = #[v0, v1] := by cases args; simp_all
  obtain ⟨rfl, rfl⟩ := trodVars_none hV
  have lt0 : ∀ x ∈ p0, x.block < W.heap.size := by obtain ⟨m, hm⟩ := h0; exact DataW.trod_lt m _ _ _ hm
  have hv0 := hval 0 24 v0 rfl rfl
  have g0 : ∀ k ∈ d0.weights Try.prog 24, k ≤ reachBytes := fun k hk => by
    have := List.all_eq_true.1 hsz k (DataW.weights_mem_each (j := 0) (t := 24) (d := d0) rfl rfl k hk)
    simpa using this
  obtain ⟨cs, rfl, hcs⟩ := okWide_struct Try.underlying24 hv0
  rw [show Try.prog.cellsOf 24 = 2 by kernel_rfl] at hcs
  obtain ⟨c0, c1, rfl⟩ := two cs hcs
  obtain ⟨m, hm⟩ := id h0
  obtain ⟨x, hK, hQ⟩ := (opn W).get enc _ _ _ _ _ _ hm g0
  obtain ⟨a0, l0⟩ := x
  obtain ⟨A0, n0, hc0, hr0, e0, e1⟩ := cells2 W c0 c1 a0 l0 hK
  subst e0 e1
  obtain ⟨a1, rfl, rfl, rfl, y1⟩ := open_string Try.underlying9 (hval 1 9 v1 rfl rfl) h1
  have w1 : a1.size ≤ 140737488351232 := by
    have z := sized_string hsz (j := 1) (t := 9) rfl rfl
    rw [Array.length_toList] at z
    exact z
  clear hA0 hval0 hsz0 hsz
  obtain ⟨k, hP⟩ := Pure.RefsBytes a0 l0 a1 hQ.1 hQ.2.2 w1
  refine (pollardlaw13_RefsBytes.calls k a0 A0 n0 l0 a1 true W hr0 hc0 hP).mono fun e W' ⟨he, bel⟩ => ?_
  subst he
  exact ⟨_, rfl, _, _, _, [], _, [], hW', trodAll_mk1 (shut_bool Try.underlying4 _), (trodAll_cons_mk (Below.trod laidOut (by kernel_rfl) (of_decide_eq_true (by kernel_rfl)) h0 bel lt0) (trodAll_cons_mk (shut_string Try.underlying9 y1) trodAll_mk0)), rfl, bel.frame _, fun h => by cases h⟩
theorem over : Rows.refsBytesRow.holds Try.pinned (OpenSpec.ofChange Rows.refsBytesSpec) :=
  OpenClaim.holds_of_wide 5 Try.f5 rfl rfl rfl rfl rfl rfl rfl ⟨rfl, rfl, rfl, rfl, rfl⟩ rfl rfl rfl rfl rfl (by kernel_rfl) Try.func5 (by kernel_rfl)
    (of_decide_eq_true (by kernel_rfl)) (by unfold Func.isWrapper; first | (rw [if_pos (by decide +kernel)]; kernel_rfl) | (rw [if_neg (by decide +kernel)]; exact ⟨rfl, rfl⟩))
    (fun os started H enc _ => lifted os started H enc)
theorem proved : Rows.RefsBytesSaid := over
#print axioms proved
end Go.Proofs.Ytgepbdkbleapaaa.refsBytes
namespace Go.Proofs.Ytgepbdkbleapaaa
/-- The row, under a short name, for the claim. -/
theorem refsBytes_holds : Rows.RefsBytesSaid := refsBytes.proved
end Go.Proofs.Ytgepbdkbleapaaa
