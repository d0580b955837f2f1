/- Partners and kinds, as the document has them. -/
import Derived.Test.YtfkajhppdeidjaaDoorPl19s
import Derived.Test.YtfkajhppdeidjaaDoorPl18r
import Derived.Test.YtfkajhppdeidjaaDoorMx9
import Derived.Test.YtfkajhppdeidjaaDoorMx10
namespace Go.Proofs.YtfkajhppdeidjaaDoor.Pl
set_option linter.unusedVariables false
set_option linter.unusedSimpArgs false
open Go.RowKit Go.Proofs.YtfkajhppdeidjaaDoor.M Go.Proofs.YtfkajhppdeidjaaDoorW.PrintWords Go.Proofs.YtfkajhppdeidjaaDoorW.PrintLast
theorem rd70 (L : List (Int × Int)) (i : Nat) (hlt : i < L.length) : rd_T70 (L.map (fun x => (⟨x.1, x.2⟩ : S70))) (i : Int) = ⟨(L[i]'hlt).1, (L[i]'hlt).2⟩ := by
  unfold rd_T70
  rw [Int.toNat_natCast, List.getD, List.getElem?_eq_getElem (by rw [List.length_map]; exact hlt), Option.getD_some, List.getElem_map]
theorem ref_partner (L : List (Int × Int)) (hl : L.length ≤ 1000000) (at_ : Int) : Ev (fun k => pollardref19_partner.f k (L.map (fun x => (⟨x.1, x.2⟩ : S70))) at_) (pt L at_) := by
  have go : ∀ (n i : Nat), L.length - i = n → i ≤ L.length → Ev (fun k => pollardref19_partner.l0 k (L.map (fun x => (⟨x.1, x.2⟩ : S70))) at_ (i : Int)) (pt (L.drop i) at_) := by
    intro n
    induction n with
    | zero =>
      intro i hn hi
      rw [List.drop_eq_nil_of_le (by omega), pt]
      refine Ev.step (f := fun _ => some (-1)) (fun k => ?_) (Ev.now _)
      simp only [pollardref19_partner.l0, List.length_map]
      rw [if_neg (by omega)]
    | succ n ih =>
      intro i hn hi
      have hlt : i < L.length := by omega
      have h1 := rd70 L i hlt
      rw [List.drop_eq_getElem_cons hlt, pt]
      by_cases e : (L[i]'hlt).1 = at_
      · rw [if_pos e]
        refine Ev.step (f := fun _ => some (L[i]'hlt).2) (fun k => ?_) (Ev.now _)
        simp only [pollardref19_partner.l0, List.length_map]
        rw [if_pos (by omega), if_pos (by omega), h1]
        dsimp only
        rw [if_pos e]
      · rw [if_neg e]
        refine Ev.step (f := fun k => pollardref19_partner.l0 k (L.map (fun x => (⟨x.1, x.2⟩ : S70))) at_ ((i + 1 : Nat) : Int)) (fun k => ?_) (ih (i + 1) (by omega) (by omega))
        simp only [pollardref19_partner.l0, List.length_map]
        rw [if_pos (by omega), if_pos (by omega), h1]
        dsimp only
        rw [if_neg e, w64s (by omega)]
  have := go L.length 0 (by omega) (by omega)
  rw [List.drop_zero] at this
  exact this

theorem ref_kind (b o t : List ByteArray) (h0 : b.length ≤ 1000) (h1 : o.length ≤ 1000) (h2 : t.length ≤ 1000) : Ev (fun k => pollardref19_kind.f k b o t) (kindOf b o t) := by
  unfold pollardref19_kind.f kindOf
  refine Ev.bind (same_f o t (by omega)) ?_
  by_cases e1 : o = t
  · rw [if_pos e1]
    exact Ev.congr (fun k => if_pos (decide_eq_true e1)) (Ev.now _)
  · rw [if_neg e1]
    refine Ev.congr (fun k => if_neg (by simp [e1])) ?_
    refine Ev.bind (same_f b t (by omega)) ?_
    by_cases e2 : b = t
    · rw [if_pos e2]
      exact Ev.congr (fun k => if_pos (decide_eq_true e2)) (Ev.now _)
    · rw [if_neg e2]
      refine Ev.congr (fun k => if_neg (by simp [e2])) ?_
      refine Ev.bind (same_f b o (by omega)) ?_
      by_cases e3 : b = o
      · rw [if_pos e3]
        exact Ev.congr (fun k => if_pos (decide_eq_true e3)) (Ev.now _)
      · rw [if_neg e3]
        exact Ev.congr (fun k => if_neg (by simp [e3])) (Ev.now _)
end Go.Proofs.YtfkajhppdeidjaaDoor.Pl
