/- The same lines, as the document asks. -/
import Derived.Test.YthdmioocgofaeaaDoorPl19
import Derived.Test.YthdmioocgofaeaaDoorMx7
namespace Go.Proofs.YthdmioocgofaeaaDoor.Pl
set_option linter.unusedVariables false
set_option linter.unusedSimpArgs false
open Go.RowKit Go.Proofs.YthdmioocgofaeaaDoor.M Go.Proofs.YthdmioocgofaeaaDoorW.PrintWords Go.Proofs.YthdmioocgofaeaaDoorW.PrintLast
theorem same_f (a b : List ByteArray) (ha : a.length ≤ 1000000) : Ev (fun k => pollardref19_Same.f k a b) (decide (a = b)) := by
  by_cases hl : a.length = b.length
  · have go : ∀ (n i : Nat), a.length - i = n → i ≤ a.length → Ev (fun k => pollardref19_Same.l0 k a b (i : Int)) (decide (a.drop i = b.drop i)) := by
      intro n
      induction n with
      | zero =>
        intro i hn hi
        rw [List.drop_eq_nil_of_le (by omega), List.drop_eq_nil_of_le (by omega), decide_eq_true rfl]
        refine Ev.step (f := fun _ => some true) (fun k => ?_) (Ev.now _)
        simp only [pollardref19_Same.l0]
        rw [if_neg (by omega)]
      | succ n ih =>
        intro i hn hi
        have hlt : i < a.length := by omega
        have hlt2 : i < b.length := by omega
        by_cases e : (a[i]'hlt).toList = (b[i]'hlt2).toList
        · have h2 := ih (i + 1) (by omega) (by omega)
          have h3 : decide (a.drop i = b.drop i) = decide (a.drop (i + 1) = b.drop (i + 1)) := decide_eq_decide.mpr ((same_next hl hlt).trans ⟨fun h => h.2, fun h => ⟨e, h⟩⟩)
          rw [h3]
          refine Ev.step (fun k => ?_) h2
          simp only [pollardref19_Same.l0]
          rw [if_pos (by omega), if_pos (by omega), if_pos (by omega), rdOf_at a i hlt, rdOf_at b i hlt2, if_pos e, w64s (by omega)]
        · have h3 : decide (a.drop i = b.drop i) = false := decide_eq_false (fun h => e ((same_next hl hlt).mp h).1)
          rw [h3]
          refine Ev.step (f := fun _ => some false) (fun k => ?_) (Ev.now _)
          simp only [pollardref19_Same.l0]
          rw [if_pos (by omega), if_pos (by omega), if_pos (by omega), rdOf_at a i hlt, rdOf_at b i hlt2, if_neg e]
    have := go a.length 0 (by omega) (by omega)
    rw [List.drop_zero, List.drop_zero] at this
    unfold pollardref19_Same.f
    exact Ev.congr (fun k => if_pos (by omega)) this
  · have h3 : decide (a = b) = false := decide_eq_false (fun h => hl (by rw [h]))
    rw [h3]
    unfold pollardref19_Same.f
    exact Ev.congr (fun k => if_neg (by omega)) (Ev.now _)
end Go.Proofs.YthdmioocgofaeaaDoor.Pl
