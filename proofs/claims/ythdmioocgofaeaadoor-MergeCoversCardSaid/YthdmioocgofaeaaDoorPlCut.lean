/- What is cut to so many lines. -/
import Derived.Test.YthdmioocgofaeaaDoorPl18c
import Derived.Test.YthdmioocgofaeaaDoorMx1
namespace Go.Proofs.YthdmioocgofaeaaDoor.Pl
set_option linter.unusedVariables false
open Go.RowKit Go.Proofs.YthdmioocgofaeaaDoor.M Go.Proofs.YthdmioocgofaeaaDoorW.PrintWords Go.Proofs.YthdmioocgofaeaaDoorW.PrintLast

theorem cut18 (l : List ByteArray) : ∃ a, pollardlaw18_Cut.f l = some a ∧ a.length ≤ 30 := by
  unfold pollardlaw18_Cut.f
  by_cases h : (l.length : Int) > 30
  · rw [if_pos h, if_pos (by omega)]
    exact ⟨_, rfl, by rw [List.length_take]; omega⟩
  · rw [if_neg h]
    exact ⟨_, rfl, by omega⟩
theorem ev_to {α : Type} {g : Nat → Option α} {r : α} (h : ∃ f : Nat → Option α, (∀ k, g (k + 1) = f k) ∧ Ev f r) : Ev g r := by
  obtain ⟨f, h1, h2⟩ := h
  exact Ev.step h1 h2
end Go.Proofs.YthdmioocgofaeaaDoor.Pl
