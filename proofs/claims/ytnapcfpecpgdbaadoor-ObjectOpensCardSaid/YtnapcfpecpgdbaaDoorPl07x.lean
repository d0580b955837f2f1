/- Messages; a blank line; ids' sizes. -/
import Derived.Test.YtnapcfpecpgdbaaDoorPl07c
import Derived.Test.YtnapcfpecpgdbaaDoorPlWords
import Derived.Test.YtnapcfpecpgdbaaDoorMx7
import Derived.Test.YtnapcfpecpgdbaaDoorMx17
namespace Go.Proofs.YtnapcfpecpgdbaaDoor.Pl
set_option linter.unusedVariables false
set_option linter.unusedSimpArgs false
open Go.RowKit Go.Proofs.YtnapcfpecpgdbaaDoor.M Go.Proofs.YtnapcfpecpgdbaaDoorW.PrintWords Go.Proofs.YtnapcfpecpgdbaaDoorW.PrintLast

/-- May a text be a message? -/
def textV (s : ByteArray) : Bool := decide ((s.size : Int) ≤ 4096) && ((label_Words.go s s.size 0 0 0).2 == 0)
theorem text_prog (s : ByteArray) (hs : s.size ≤ 70368744177664) : ob_text.f s = some (textV s) := by
 unfold ob_text.f label_Words.f textV
 rw [if_pos (by omega), Option.bind_some]
 by_cases h : (s.size : Int) ≤ 4096
 · rw [if_pos h, decide_eq_true h, Bool.true_and]
 · rw [if_neg h, decide_eq_false h, Bool.false_and]
theorem text_ref (s : ByteArray) (hs : s.size ≤ 70368744177664) : Ev (fun k => r7_text.f k s) (textV s) := by
 obtain ⟨r, h1, h2⟩ := words_eq s (by omega)
 unfold label_Words.f at h1
 rw [if_pos (by omega)] at h1
 have h3 := Option.some.inj h1
 unfold r7_text.f textV
 rw [h3]
 refine Ev.bind h2 ?_
 by_cases h : (s.size : Int) ≤ 4096
 · simp only [if_pos h, decide_eq_true h, Bool.true_and]
   exact Ev.now _
 · simp only [if_neg h, decide_eq_false h, Bool.false_and]
   exact Ev.now _
/-- What a text begins with, and whether a blank line is next. -/
def blankL : List UInt8 → Option (List UInt8)
 | [] => none
 | c :: t => if c = 10 then some t else none
theorem cut_blank (s : ByteArray) (hs : s.size ≤ 70368744177664) : ∃ p, strings_CutPrefix.f s ⟨#[10]⟩ = some (p, (blankL s.toList).isSome) ∧ p.size ≤ s.size ∧ ∀ t, blankL s.toList = some t → p = mk t := by
 have h := cutp s ⟨#[10]⟩
 have e1 : (⟨#[10]⟩ : ByteArray).size = 1 := rfl
 have e2 : (⟨#[10]⟩ : ByteArray).toList = [10] := toList_lit [10]
 rw [e1, e2, toList_extract, List.drop_zero] at h
 cases hl : s.toList with
 | nil =>
  rw [hl, if_neg (fun hh => by cases hh.2)] at h
  exact ⟨s, h, Nat.le_refl _, fun t ht => by cases ht⟩
 | cons c t =>
  have hz : s.size = t.length + 1 := by rw [← toList_length, hl]; rfl
  rw [hl] at h
  by_cases hc : c = 10
  · rw [if_pos ⟨by omega, by rw [hc]; rfl⟩] at h
    refine ⟨s.extract 1 s.size, by rw [h, blankL, if_pos hc]; rfl, by rw [ByteArray.size_extract]; omega, ?_⟩
    intro t' ht
    rw [blankL, if_pos hc] at ht
    rw [← Option.some.inj ht]
    apply ba_ext
    rw [toList_mk, toList_from, hl]
    rfl
  · rw [if_neg (fun hh => hc (by have := hh.2; simp at this; exact this))] at h
    exact ⟨s, by rw [h, blankL, if_neg hc]; rfl, Nat.le_refl _, fun t' ht => by rw [blankL, if_neg hc] at ht; cases ht⟩
theorem hexL_no10 : ∀ l : List UInt8, (10 : UInt8) ∉ hexL l
 | [] => by simp [hexL]
 | c :: cs => by
  have h : ∀ n : Fin 16, hd n.1 ≠ 10 := by decide
  have hc := c.toNat_lt
  intro hm
  rw [hexL] at hm
  rcases List.mem_cons.mp hm with hm | hm
  · exact h ⟨c.toNat / 16, by omega⟩ hm.symm
  · rcases List.mem_cons.mp hm with hm | hm
    · exact h ⟨c.toNat % 16, by omega⟩ hm.symm
    · exact hexL_no10 cs hm
theorem bt_head (s : ByteArray) (c : UInt8) (t : List UInt8) (h : s.toList = c :: t) : bt s 0 = (c.toNat : Int) := by
 have := bt_drop (s := s) (i := 0) (by rw [List.drop_zero]; exact h)
 exact this.1
end Go.Proofs.YtnapcfpecpgdbaaDoor.Pl
