/- Tags: what the program and the reference come to. -/
import Derived.Test.YtnapcfpecpgdbaaPl07c
import Derived.Test.YtnapcfpecpgdbaaPlWords
import Derived.Test.YtnapcfpecpgdbaaMx12
import Derived.Test.YtnapcfpecpgdbaaMx14
import Derived.Test.YtnapcfpecpgdbaaMx11
import Derived.Test.YtnapcfpecpgdbaaMx17
import Derived.Test.YtnapcfpecpgdbaaMx18
import Derived.Test.YtnapcfpecpgdbaaMx23
import Derived.Test.YtnapcfpecpgdbaaMx25
namespace Go.Proofs.Ytnapcfpecpgdbaa.Pl
set_option linter.unusedVariables false
set_option linter.unusedSimpArgs false
open Go.RowKit Go.Proofs.Ytnapcfpecpgdbaa.M Go.Proofs.YtnapcfpecpgdbaaW.PrintWords Go.Proofs.YtnapcfpecpgdbaaW.PrintLast

/-- May a text be a message? -/
def textV (s : ByteArray) : Bool := decide ((s.size : Int) ≤ 4096) && ((label_Words.go s s.size 0 0 0).2 == 0)
theorem text_prog (s : ByteArray) (hs : s.size ≤ 70368744177664) : object_text.f s = some (textV s) := by
  unfold object_text.f label_Words.f textV
  rw [if_pos (by omega), Option.bind_some]
  by_cases h : (s.size : Int) ≤ 4096
  · rw [if_pos h, decide_eq_true h, Bool.true_and]
  · rw [if_neg h, decide_eq_false h, Bool.false_and]
theorem text_ref (s : ByteArray) (hs : s.size ≤ 70368744177664) : Ev (fun k => pollardref07_text.f k s) (textV s) := by
  obtain ⟨r, h1, h2⟩ := words_eq s (by omega)
  unfold label_Words.f at h1
  rw [if_pos (by omega)] at h1
  have h3 := Option.some.inj h1
  unfold pollardref07_text.f textV
  rw [h3]
  refine Ev.bind h2 ?_
  by_cases h : (s.size : Int) ≤ 4096
  · simp only [if_pos h, decide_eq_true h, Bool.true_and]
    exact Ev.now _
  · simp only [if_neg h, decide_eq_false h, Bool.false_and]
    exact Ev.now _
def tagsOf (nm : ByteArray) : ByteArray := (⟨#[116, 97, 103, 115, 47]⟩ : ByteArray) ++ nm
theorem tagsOf_size (nm : ByteArray) : (tagsOf nm).size = 5 + nm.size := by
  unfold tagsOf
  rw [ByteArray.size_append]
  rfl
/-- May a tag be? -/
def chkV (tg : ByteArray) (m : Int) (nm tx : ByteArray) : Int := if m < 1 ∨ 4 < m then 70 else if tg.size = 32 ∧ 0 < refK (tagsOf nm) ∧ textV tx = true then 0 else 6
theorem refK_range (s : ByteArray) : 0 ≤ refK s := by
  unfold refK
  repeat' split
  all_goals decide
theorem check_prog (tg : ByteArray) (m : Int) (nm tx : ByteArray) (hn : nm.size ≤ 70368744177664) (ht : tx.size ≤ 70368744177664) : Ev (fun k => object_CheckTag.f k tg m nm tx) (chkV tg m nm tx) := by
  have j : ∀ odd : Bool, Ev (fun k => object_CheckTag.j0 k odd tg m nm tx) (if odd = true then 70 else if tg.size = 32 ∧ 0 < refK (tagsOf nm) ∧ textV tx = true then 0 else 6) := by
    intro odd
    refine Ev.step (fun k => by rw [object_CheckTag.j0]) ?_
    by_cases ho : odd = true
    · simp only [if_pos ho]
      exact Ev.now _
    · simp only [if_neg ho]
      by_cases h1 : tg.size = 32
      · simp only [if_pos (show (tg.size : Int) = 32 by omega), if_pos (show 5 + nm.size ≤ 9223372036854775807 by omega)]
        rw [show (⟨#[116, 97, 103, 115, 47]⟩ : ByteArray) ++ nm = tagsOf nm from rfl, ref_prog, Option.bind_some, text_prog tx ht, Option.bind_some]
        by_cases h2 : 0 < refK (tagsOf nm)
        · by_cases h3 : textV tx = true
          · simp only [decide_eq_true h2, if_true, h3, if_pos (show tg.size = 32 ∧ 0 < refK (tagsOf nm) ∧ True from ⟨h1, h2, trivial⟩)]
            exact Ev.now _
          · simp only [decide_eq_true h2, if_true, if_neg h3, if_neg (show ¬ (tg.size = 32 ∧ 0 < refK (tagsOf nm) ∧ textV tx = true) from fun h => h3 h.2.2)]
            exact Ev.now _
        · simp only [decide_eq_false h2, if_neg (show ¬ (false = true) by decide), if_neg (show ¬ (tg.size = 32 ∧ 0 < refK (tagsOf nm) ∧ textV tx = true) from fun h => h2 h.2.1)]
          exact Ev.now _
      · simp only [if_neg (show ¬ (tg.size : Int) = 32 by omega), if_neg (show ¬ (tg.size = 32 ∧ 0 < refK (tagsOf nm) ∧ textV tx = true) from fun h => h1 h.1)]
        exact Ev.now _
  unfold object_CheckTag.f chkV
  by_cases h1 : m < 1
  · simp only [if_pos h1, if_pos (show m < 1 ∨ 4 < m from .inl h1)]
    exact j true
  · simp only [if_neg h1]
    by_cases h4 : m > 4
    · simp only [if_pos (show m < 1 ∨ 4 < m from .inr h4), decide_eq_true h4]
      exact j true
    · simp only [if_neg (show ¬ (m < 1 ∨ 4 < m) by omega), decide_eq_false h4]
      exact j false
theorem check_ref (tg : ByteArray) (m : Int) (nm tx : ByteArray) (hn : nm.size ≤ 70368744177664) (ht : tx.size ≤ 70368744177664) : Ev (fun k => pollardref07_CheckTag.f k tg m nm tx) (chkV tg m nm tx) := by
  have hz := tagsOf_size nm
  have j : ∀ odd : Bool, Ev (fun k => pollardref07_CheckTag.j0 k odd tg m nm tx) (if odd = true then 70 else if tg.size = 32 ∧ 0 < refK (tagsOf nm) ∧ textV tx = true then 0 else 6) := by
    intro odd
    refine Ev.step (fun k => by rw [pollardref07_CheckTag.j0]) ?_
    by_cases ho : odd = true
    · simp only [if_pos ho]
      exact Ev.now _
    · simp only [if_neg ho]
      by_cases h1 : tg.size = 32
      · simp only [if_pos (show (tg.size : Int) = 32 by omega), if_pos (show 5 + nm.size ≤ 9223372036854775807 by omega)]
        refine Ev.bind (ref_doc (tagsOf nm) (by omega)) ?_
        have hr := refK_range (tagsOf nm)
        by_cases h2 : 0 < refK (tagsOf nm)
        · simp only [if_neg (show ¬ refK (tagsOf nm) = 0 by omega)]
          refine Ev.bind (text_ref tx ht) ?_
          by_cases h3 : textV tx = true
          · simp only [h3, if_true, if_pos (show tg.size = 32 ∧ 0 < refK (tagsOf nm) ∧ True from ⟨h1, h2, trivial⟩)]
            exact Ev.now _
          · simp only [if_neg h3, if_neg (show ¬ (tg.size = 32 ∧ 0 < refK (tagsOf nm) ∧ textV tx = true) from fun h => h3 h.2.2)]
            exact Ev.now _
        · simp only [if_pos (show refK (tagsOf nm) = 0 by omega), if_neg (show ¬ (tg.size = 32 ∧ 0 < refK (tagsOf nm) ∧ textV tx = true) from fun h => h2 h.2.1)]
          exact Ev.now _
      · simp only [if_neg (show ¬ (tg.size : Int) = 32 by omega), if_neg (show ¬ (tg.size = 32 ∧ 0 < refK (tagsOf nm) ∧ textV tx = true) from fun h => h1 h.1)]
        exact Ev.now _
  unfold pollardref07_CheckTag.f chkV
  by_cases h1 : m < 1
  · simp only [if_pos h1, if_pos (show m < 1 ∨ 4 < m from .inl h1)]
    exact j true
  · simp only [if_neg h1]
    by_cases h4 : m > 4
    · simp only [if_pos (show m < 1 ∨ 4 < m from .inr h4), decide_eq_true h4]
      exact j true
    · simp only [if_neg (show ¬ (m < 1 ∨ 4 < m) by omega), decide_eq_false h4]
      exact j false

def wObj : List UInt8 := [111, 98, 106, 101, 99, 116]
def wKind : List UInt8 := [107, 105, 110, 100]
def wName : List UInt8 := [110, 97, 109, 101]
/-- What a text begins with, and whether a blank line is next. -/
def blankL : List UInt8 → Option (List UInt8)
  | [] => none
  | c :: t => if c = 10 then some t else none
/-- A tag's parts. -/
def tagL (l : List UInt8) : Option (List UInt8 × Int × List UInt8 × List UInt8) :=
  (lineL l wObj).bind fun x => (lineL x.2 wKind).bind fun y => (lineL y.2 wName).bind fun z => (blankL z.2).bind fun t =>
    if (idV x.1).2 = true ∧ 1 ≤ kidx y.1 then some ((idV x.1).1.toList, kidx y.1, z.1, t) else none
def tagV (s : ByteArray) : ByteArray × Int × ByteArray × ByteArray × Int := match tagL s.toList with
  | none => (⟨#[]⟩, 0, ⟨#[]⟩, ⟨#[]⟩, 6)
  | some (i, m, c, t) => if chkV (mk i) m (mk c) (mk t) = 0 then (mk i, m, mk c, mk t, 0) else (⟨#[]⟩, 0, ⟨#[]⟩, ⟨#[]⟩, chkV (mk i) m (mk c) (mk t))
theorem cut_blank (s : ByteArray) (hs : s.size ≤ 70368744177664) : ∃ p, strings_CutPrefix.f s ⟨#[10]⟩ = some (p, (blankL s.toList).isSome) ∧ p.size ≤ s.size ∧ ∀ t, blankL s.toList = some t → p = mk t := by
  have h := cutp s ⟨#[10]⟩
  have e1 : (⟨#[10]⟩ : ByteArray).size = 1 := rfl
  have e2 : (⟨#[10]⟩ : ByteArray).toList = [10] := toList_lit [10]
  rw [e1, e2, toList_extract, List.drop_zero] at h
  cases hl : s.toList with
  | nil =>
    rw [hl, if_neg (fun hh => by cases hh.2)] at h
    exact ⟨s, h, Nat.le_refl _, fun t ht => by cases ht⟩
  | cons c t =>
    have hz : s.size = t.length + 1 := by rw [← toList_length, hl]; rfl
    rw [hl] at h
    by_cases hc : c = 10
    · rw [if_pos ⟨by omega, by rw [hc]; rfl⟩] at h
      refine ⟨s.extract 1 s.size, by rw [h, blankL, if_pos hc]; rfl, by rw [ByteArray.size_extract]; omega, ?_⟩
      intro t' ht
      rw [blankL, if_pos hc] at ht
      rw [← Option.some.inj ht]
      apply ba_ext
      rw [toList_mk, toList_from, hl]
      rfl
    · rw [if_neg (fun hh => hc (by have := hh.2; simp at this; exact this))] at h
      exact ⟨s, by rw [h, blankL, if_neg hc]; rfl, Nat.le_refl _, fun t' ht => by rw [blankL, if_neg hc] at ht; cases ht⟩
theorem idV_size (l : List UInt8) : (idV l).1.size ≤ l.length := by
  have go : ∀ l r : List UInt8, unhexL l = some r → r.length ≤ l.length := by
    intro l r h
    have := hexL_length r
    rw [hex_unhex l r h] at this
    omega
  unfold idV
  cases h : unhexL l with
  | none => exact Nat.zero_le _
  | some r =>
    show (mk r).size ≤ _
    rw [mk_size]
    exact go l r h
theorem get_prog (s : ByteArray) (hs : s.size ≤ 70368744177664) : Ev (fun k => object_GetTag.f k s) (tagV s) := by
  have l1 : (⟨#[111, 98, 106, 101, 99, 116]⟩ : ByteArray).toList = wObj := toList_lit _
  have l2 : (⟨#[107, 105, 110, 100]⟩ : ByteArray).toList = wKind := toList_lit _
  have l3 : (⟨#[110, 97, 109, 101]⟩ : ByteArray).toList = wName := toList_lit _
  obtain ⟨p1, r1, h1, a1, b1, c1⟩ := prog_line s ⟨#[111, 98, 106, 101, 99, 116]⟩ hs (by decide)
  obtain ⟨p2, r2, h2, a2, b2, c2⟩ := prog_line r1 ⟨#[107, 105, 110, 100]⟩ (by omega) (by decide)
  obtain ⟨p3, r3, h3, a3, b3, c3⟩ := prog_line r2 ⟨#[110, 97, 109, 101]⟩ (by omega) (by decide)
  obtain ⟨p4, h4, a4, c4⟩ := cut_blank r3 (by omega)
  rw [l1] at h1 c1
  rw [l2] at h2 c2
  rw [l3] at h3 c3
  have bad : ∀ a b c d, Ev (fun k => object_GetTag.j0 k a b c d true) ((⟨#[]⟩ : ByteArray), (0 : Int), (⟨#[]⟩ : ByteArray), (⟨#[]⟩ : ByteArray), (6 : Int)) := fun a b c d =>
    Ev.step (f := fun _ => some (⟨#[]⟩, 0, ⟨#[]⟩, ⟨#[]⟩, 6)) (fun k => by rw [object_GetTag.j0, if_pos rfl]) (Ev.now _)
  refine Ev.congr (f := fun k => ((object_kinds.f).bind fun t => slices_Index_string_string.f k t p2).bind fun t187 => (if (lineL s.toList wObj).isSome = true then (if (lineL r1.toList wKind).isSome = true then (if (lineL r2.toList wName).isSome = true then (if (blankL r3.toList).isSome = true then (if (idV p1.toList).2 = true then (object_GetTag.j0 k p3 p4 (idV p1.toList).1 t187 (decide (t187 < 1))) else (object_GetTag.j0 k p3 p4 (idV p1.toList).1 t187 true)) else (object_GetTag.j0 k p3 p4 (idV p1.toList).1 t187 true)) else (object_GetTag.j0 k p3 p4 (idV p1.toList).1 t187 true)) else (object_GetTag.j0 k p3 p4 (idV p1.toList).1 t187 true)) else (object_GetTag.j0 k p3 p4 (idV p1.toList).1 t187 true))) (fun k => ?_) ?_
  · unfold object_GetTag.f
    rw [h1, Option.bind_some, h2, Option.bind_some, h3, Option.bind_some, h4, Option.bind_some, id_prog p1 (by omega), Option.bind_some, Option.bind_assoc]
  · refine Ev.bind (index_kinds p2) ?_
    unfold tagV tagL
    cases e1 : lineL s.toList wObj with
    | none => exact bad _ _ _ _
    | some x =>
      obtain ⟨rfl, rfl⟩ := c1 x.1 x.2 (by rw [e1])
      simp only [Option.isSome_some, if_true, Option.bind_some, toList_mk] at *
      cases e2 : lineL x.2 wKind with
      | none => exact bad _ _ _ _
      | some y =>
        obtain ⟨rfl, rfl⟩ := c2 y.1 y.2 (by rw [e2])
        simp only [Option.isSome_some, if_true, Option.bind_some, toList_mk] at *
        cases e3 : lineL y.2 wName with
        | none => exact bad _ _ _ _
        | some z =>
          obtain ⟨rfl, rfl⟩ := c3 z.1 z.2 (by rw [e3])
          simp only [Option.isSome_some, if_true, Option.bind_some, toList_mk] at *
          cases e4 : blankL z.2 with
          | none => exact bad _ _ _ _
          | some t =>
            obtain rfl := c4 t e4
            simp only [Option.isSome_some, if_true, Option.bind_some]
            by_cases h5 : (idV x.1).2 = true
            · simp only [if_pos h5]
              by_cases h6 : 1 ≤ kidx y.1
              · simp only [decide_eq_false (show ¬ kidx y.1 < 1 by omega), if_pos (show (idV x.1).2 = true ∧ 1 ≤ kidx y.1 from ⟨h5, h6⟩), mk_toList]
                refine Ev.step (f := fun k => (object_CheckTag.f k (idV x.1).1 (kidx y.1) (mk z.1) (mk t)).bind fun t189 => (if t189 = 0 then (some ((idV x.1).1, kidx y.1, mk z.1, mk t, 0)) else (some ((⟨#[]⟩ : ByteArray), 0, (⟨#[]⟩ : ByteArray), (⟨#[]⟩ : ByteArray), t189)))) (fun k => by rw [object_GetTag.j0, if_neg (by decide)]) ?_
                refine Ev.bind (check_prog _ _ _ _ (by omega) (by omega)) ?_
                by_cases h7 : chkV (idV x.1).1 (kidx y.1) (mk z.1) (mk t) = 0
                · simp only [if_pos h7]
                  exact Ev.now _
                · simp only [if_neg h7]
                  exact Ev.now _
              · simp only [decide_eq_true (show kidx y.1 < 1 by omega), if_neg (show ¬ ((idV x.1).2 = true ∧ 1 ≤ kidx y.1) from fun h => h6 h.2)]
                exact bad _ _ _ _
            · simp only [if_neg h5, if_neg (show ¬ ((idV x.1).2 = true ∧ 1 ≤ kidx y.1) from fun h => h5 h.1)]
              exact bad _ _ _ _
end Go.Proofs.Ytnapcfpecpgdbaa.Pl
