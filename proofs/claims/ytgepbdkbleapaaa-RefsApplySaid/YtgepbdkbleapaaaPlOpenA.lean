/- What is handed in, opened: an array of two. -/
import Derived.Test.YtgepbdkbleapaaaPlOpen
import Derived.OpenShut
namespace Go.Proofs.Ytgepbdkbleapaaa.Pl
set_option linter.unusedVariables false
open Go Go.RowKit Go.ChangeShapes Go.Proofs.YtgepbdkbleapaaaW.PrintWords Go.Proofs.YtgepbdkbleapaaaW.PrintLast
theorem Opn.array2 {P : Program} {w : World} {t e : TypeId} {α : Type} {d : Kd α} {Q : α → Prop} (ht : P.underlying t = some (.array 2 e)) (hc : P.cellsOf e = d.sz) (hct : P.cellsOf t = d.sz + d.sz) (h : Opn P w e d Q) : Opn P w t (Kd.pair d d) (fun x => Q x.1 ∧ Q x.2) := by
  constructor
  intro H enc base spare held n cs y hy hw
  obtain ⟨xs, m, _, rfl, hl, hxl, hf⟩ := DataW.trod_array ht hy
  match xs, hxl with
  | [y0, y1], _ =>
    have h0 := hf 0 (by omega)
    have h1 := hf 1 (by omega)
    rw [hc] at h0 h1
    obtain ⟨x0, K0, Q0⟩ := h.get enc base spare held m _ y0 h0 (fun k hk => hw k (by simp [DataW.weights, ht, DataW.weightsAll, hk]))
    obtain ⟨x1, K1, Q1⟩ := h.get enc base spare held m _ y1 h1 (fun k hk => hw k (by simp [DataW.weights, ht, DataW.weightsAll, hk]))
    refine ⟨(x0, x1), ⟨_, _, ?_, K0, K1⟩, Q0, Q1⟩
    rw [hct] at hl
    rw [Nat.zero_mul, Nat.one_mul, List.drop_zero]
    conv => lhs; rw [← List.take_append_drop d.sz cs]
    congr 1
    exact (List.take_of_length_le (by rw [List.length_drop]; omega)).symm
end Go.Proofs.Ytgepbdkbleapaaa.Pl
