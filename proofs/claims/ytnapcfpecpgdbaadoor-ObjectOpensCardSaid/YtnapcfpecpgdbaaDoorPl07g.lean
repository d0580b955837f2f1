/- Commits read: what the program and the reference come to. -/
import Derived.Test.YtnapcfpecpgdbaaDoorPl07k
import Derived.Test.YtnapcfpecpgdbaaDoorMx10
import Derived.Test.YtnapcfpecpgdbaaDoorMx21
namespace Go.Proofs.YtnapcfpecpgdbaaDoor.Pl
set_option linter.unusedVariables false
set_option linter.unusedSimpArgs false
open Go.RowKit Go.Proofs.YtnapcfpecpgdbaaDoor.M Go.Proofs.YtnapcfpecpgdbaaDoorW.PrintWords Go.Proofs.YtnapcfpecpgdbaaDoorW.PrintLast

def wTree : List UInt8 := [116, 114, 101, 101]
def wParent : List UInt8 := [112, 97, 114, 101, 110, 116]
def wAuthor : List UInt8 := [97, 117, 116, 104, 111, 114]
def wTime : List UInt8 := [116, 105, 109, 101]
/-- The parents' lines; what is behind them. -/
def parentsL : Nat → List UInt8 → Option (List (List UInt8) × List UInt8)
 | 0, _ => none
 | f + 1, l => match lineL l wParent with
  | none => some ([], l)
  | some x => if (idV x.1).2 = true then (parentsL f x.2).map fun p => ((idV x.1).1.toList :: p.1, p.2) else none
/-- The author, the time, the text. -/
def restL (l : List UInt8) : Option (List UInt8 × Int × List UInt8) :=
 (lineL l wAuthor).bind fun x => (lineL x.2 wTime).bind fun y => (blankL y.2).bind fun t => if (undecV y.1).2 = 0 then some (x.1, (undecV y.1).1, t) else none
/-- A commit's parts. -/
def commitL (l : List UInt8) : Option (List UInt8 × List (List UInt8) × List UInt8 × Int × List UInt8) :=
 (lineL l wTree).bind fun x => if (idV x.1).2 = true then (parentsL (l.length + 1) x.2).bind fun p => (restL p.2).map fun q => ((idV x.1).1.toList, p.1, q) else none
abbrev Com := ByteArray × List ByteArray × ByteArray × Int × ByteArray × Int
def badC (e : Int) : Com := (⟨#[]⟩, [], ⟨#[]⟩, 0, ⟨#[]⟩, e)
def finC (T : ByteArray) (ps : List ByteArray) (q : List UInt8 × Int × List UInt8) : Com := if chkC T ps (mk q.1) (mk q.2.2) = 0 then (T, ps, mk q.1, q.2.1, mk q.2.2, 0) else badC (chkC T ps (mk q.1) (mk q.2.2))
def endC (T : ByteArray) (ps : List ByteArray) : Option (List UInt8 × Int × List UInt8) → Com
 | none => badC 6
 | some q => finC T ps q
def runC (T : ByteArray) (acc : List ByteArray) : Option (List (List UInt8) × List UInt8) → Com
 | none => badC 6
 | some p => endC T (acc ++ p.1.map mk) (restL p.2)
theorem lineL_short {l w t r : List UInt8} (h : lineL l w = some (t, r)) : t.length ≤ l.length ∧ r.length < l.length := by
 have := (lineL_back h).1
 rw [this]
 simp only [List.length_append, List.length_cons]
 omega
section
variable (T : ByteArray)
theorem rest_prog (s : ByteArray) (hs : s.size ≤ 100000) (ps : List ByteArray) (hp : ps.length ≤ 100000) :
 Ev (fun k => (ob_line.f s (⟨#[97, 117, 116, 104, 111, 114]⟩ : ByteArray)).bind fun bt132 => ((ob_line.f bt132.2.1 (⟨#[116, 105, 109, 101]⟩ : ByteArray)).bind fun bt135 => ((strings_CutPrefix.f bt135.2.1 (⟨#[10]⟩ : ByteArray)).bind fun bt138 => ((code_Undec.f k bt135.1).bind fun bt140 => (if bt132.2.2 = true then (if bt135.2.2 = true then (if bt138.2 = true then (ob_GetCommit.j2 k bt132.1 bt138.1 bt140.1 (bt140.2 != 0) ⟨#[]⟩ ⟨#[]⟩ 0 ⟨#[]⟩ T ps ⟨#[]⟩ 0 ⟨#[]⟩) else (ob_GetCommit.j2 k bt132.1 bt138.1 bt140.1 true ⟨#[]⟩ ⟨#[]⟩ 0 ⟨#[]⟩ T ps ⟨#[]⟩ 0 ⟨#[]⟩)) else (ob_GetCommit.j2 k bt132.1 bt138.1 bt140.1 true ⟨#[]⟩ ⟨#[]⟩ 0 ⟨#[]⟩ T ps ⟨#[]⟩ 0 ⟨#[]⟩)) else (ob_GetCommit.j2 k bt132.1 bt138.1 bt140.1 true ⟨#[]⟩ ⟨#[]⟩ 0 ⟨#[]⟩ T ps ⟨#[]⟩ 0 ⟨#[]⟩))))))
  (endC T ps (restL s.toList)) := by
 have l1 : (⟨#[97, 117, 116, 104, 111, 114]⟩ : ByteArray).toList = wAuthor := toList_lit _
 have l2 : (⟨#[116, 105, 109, 101]⟩ : ByteArray).toList = wTime := toList_lit _
 obtain ⟨p1, r1, h1, a1, b1, c1⟩ := prog_line s ⟨#[97, 117, 116, 104, 111, 114]⟩ (by omega) (by decide)
 obtain ⟨p2, r2, h2, a2, b2, c2⟩ := prog_line r1 ⟨#[116, 105, 109, 101]⟩ (by omega) (by decide)
 obtain ⟨p4, h4, a4, c4⟩ := cut_blank r2 (by omega)
 rw [l1] at h1 c1
 rw [l2] at h2 c2
 have bad : ∀ a b c, Ev (fun k => ob_GetCommit.j2 k a b c true ⟨#[]⟩ ⟨#[]⟩ 0 ⟨#[]⟩ T ps ⟨#[]⟩ 0 ⟨#[]⟩) (badC 6) := fun a b c =>
  Ev.step (f := fun _ => some (badC 6)) (fun k => by rw [ob_GetCommit.j2, if_pos rfl]; first | done | rfl) (Ev.now _)
 simp only [h1, Option.bind_some, h2, h4]
 refine Ev.bind (undec_prog p2 (by omega)) ?_
 unfold restL
 cases e1 : lineL s.toList wAuthor with
 | none => exact bad _ _ _
 | some x =>
  obtain ⟨rfl, rfl⟩ := c1 x.1 x.2 (by rw [e1])
  simp only [Option.isSome_some, if_true, Option.bind_some, toList_mk] at *
  cases e2 : lineL x.2 wTime with
  | none => exact bad _ _ _
  | some y =>
   obtain ⟨rfl, rfl⟩ := c2 y.1 y.2 (by rw [e2])
   simp only [Option.isSome_some, if_true, Option.bind_some, toList_mk] at *
   cases e3 : blankL y.2 with
   | none => exact bad _ _ _
   | some t =>
    obtain rfl := c4 t e3
    simp only [Option.isSome_some, if_true, Option.bind_some]
    by_cases h5 : (undecV y.1).2 = 0
    · have hb : ((undecV y.1).2 != 0) = false := by rw [h5]; rfl
      simp only [hb, if_pos h5]
      refine Ev.step (f := fun k => (ob_CheckCommit.f k T ps (mk x.1) (undecV y.1).1 (mk t)).bind fun t142 => (if t142 = 0 then (some (T, ps, mk x.1, (undecV y.1).1, mk t, 0)) else (some (⟨#[]⟩, ([] : List ByteArray), ⟨#[]⟩, 0, ⟨#[]⟩, t142)))) (fun k => by rw [ob_GetCommit.j2, if_neg (by decide)]) ?_
      refine Ev.bind (chkc_prog T ps (mk x.1) _ (mk t) (by omega) (by omega) (by omega)) ?_
      show Ev _ (finC T ps (x.1, (undecV y.1).1, t))
      unfold finC
      by_cases h7 : chkC T ps (mk x.1) (mk t) = 0
      · simp only [if_pos h7]
        exact Ev.now _
      · simp only [if_neg h7]
        exact Ev.now _
    · have hb : ((undecV y.1).2 != 0) = true := bne_iff_ne.mpr h5
      simp only [hb, if_neg h5]
      exact bad _ _ _
theorem l0_prog : ∀ (f : Nat) (s : ByteArray) (acc : List ByteArray), s.size < f → acc.length + s.size ≤ 10000 →
 Ev (fun k => ob_GetCommit.l0 k s ⟨#[]⟩ ⟨#[]⟩ 0 ⟨#[]⟩ T acc ⟨#[]⟩ 0 ⟨#[]⟩) (runC T acc (parentsL f s.toList))
 | 0, s, acc, h, _ => by omega
 | f + 1, s, acc, h, hacc => by
  have l1 : (⟨#[112, 97, 114, 101, 110, 116]⟩ : ByteArray).toList = wParent := toList_lit _
  obtain ⟨p1, r1, h1, a1, b1, c1⟩ := prog_line s ⟨#[112, 97, 114, 101, 110, 116]⟩ (by omega) (by decide)
  rw [l1] at h1 c1
  rw [parentsL]
  cases e1 : lineL s.toList wParent with
  | none =>
   rw [e1] at h1
   have hr := rest_prog T s (by omega) acc (by omega)
   refine Ev.step (fun k => by rw [ob_GetCommit.l0, h1, Option.bind_some]; first | done | exact if_neg (by decide)) ?_
   show Ev _ (endC T (acc ++ []) (restL s.toList))
   rw [List.append_nil]
   exact hr
  | some x =>
   obtain ⟨rfl, rfl⟩ := c1 x.1 x.2 (by rw [e1])
   rw [e1] at h1
   have sx := lineL_short (t := x.1) (r := x.2) e1
   rw [toList_length] at sx
   by_cases h5 : (idV x.1).2 = true
   ·
    have ih := l0_prog f (mk x.2) (acc ++ [(idV x.1).1]) (by rw [mk_size]; omega) (by rw [mk_size, List.length_append, List.length_singleton]; omega)
    rw [toList_mk] at ih
    simp only [if_pos h5]
    refine Ev.step (f := fun k => ob_GetCommit.l0 k (mk x.2) ⟨#[]⟩ ⟨#[]⟩ 0 ⟨#[]⟩ T (acc ++ [(idV x.1).1]) ⟨#[]⟩ 0 ⟨#[]⟩) (fun k => ?_) ?_
    · rw [ob_GetCommit.l0, h1, Option.bind_some, id_prog (mk x.1) (by rw [mk_size]; omega), toList_mk]
      simp only [Option.isSome_some, if_true, Option.bind_some, if_pos h5]
      rw [if_pos (by omega)]
    · cases hp : parentsL f x.2 with
      | none =>
       rw [hp] at ih
       exact ih
      | some p =>
       rw [hp] at ih
       simp only [Option.map_some]
       have e : runC T acc (some ((idV x.1).1.toList :: p.1, p.2)) = runC T (acc ++ [(idV x.1).1]) (some p) := by
        simp only [runC, List.map_cons, mk_toList, List.append_assoc, List.cons_append, List.nil_append]
       rw [e]
       exact ih
   · simp only [if_neg h5]
     refine Ev.step (f := fun _ => some (badC 6)) (fun k => ?_) (Ev.now _)
     rw [ob_GetCommit.l0, h1, Option.bind_some, id_prog (mk x.1) (by rw [mk_size]; omega), toList_mk]
     simp only [Option.isSome_some, if_true, Option.bind_some, if_neg h5]
     rfl
theorem j1_ref (s : ByteArray) (hs : s.size ≤ 100000) (b : Bool) (ps : List ByteArray) (hp : ps.length ≤ 100000) :
 Ev (fun k => r7_GetCommit.j1 k s b T ps ⟨#[]⟩ 0 ⟨#[]⟩) (if b = true ∧ T.size = 32 then endC T ps (restL s.toList) else badC 6) := by
 have l1 : (⟨#[97, 117, 116, 104, 111, 114]⟩ : ByteArray).toList = wAuthor := toList_lit _
 have l2 : (⟨#[116, 105, 109, 101]⟩ : ByteArray).toList = wTime := toList_lit _
 obtain ⟨p1, r1, h1, a1, b1, c1⟩ := ref_line s ⟨#[97, 117, 116, 104, 111, 114]⟩ (by omega) (by decide)
 obtain ⟨p2, r2, h2, a2, b2, c2⟩ := ref_line r1 ⟨#[116, 105, 109, 101]⟩ (by omega) (by decide)
 rw [l1] at h1 c1
 rw [l2] at h2 c2
 have bad : ∀ a b c, Ev (fun k => r7_GetCommit.j2 k a b c true T ps ⟨#[]⟩ 0 ⟨#[]⟩) (badC 6) := fun a b c =>
  Ev.step (f := fun _ => some (badC 6)) (fun k => by rw [r7_GetCommit.j2, if_pos rfl]; rfl) (Ev.now _)
 refine Ev.step (fun k => by rw [r7_GetCommit.j1]) ?_
 refine Ev.bind h1 (Ev.bind h2 (Ev.bind (undec_ref p2 (by omega)) ?_))
 simp only
 by_cases hb : b = true
 ·
  simp only [if_pos hb]
  unfold restL
  cases e1 : lineL s.toList wAuthor with
  | none =>
   have : (if b = true ∧ T.size = 32 then endC T ps none else badC 6) = badC 6 := by split <;> rfl
   simp only [Option.isSome_none, Option.bind_none, if_neg (show ¬ (false = true) by decide), this]
   exact bad _ _ _
  | some x =>
   obtain ⟨rfl, rfl⟩ := c1 x.1 x.2 (by rw [e1])
   simp only [Option.isSome_some, if_true, Option.bind_some, toList_mk] at *
   cases e2 : lineL x.2 wTime with
   | none =>
    have : (if b = true ∧ T.size = 32 then endC T ps none else badC 6) = badC 6 := by split <;> rfl
    simp only [Option.isSome_none, Option.bind_none, if_neg (show ¬ (false = true) by decide), this]
    exact bad _ _ _
   | some y =>
    obtain ⟨rfl, rfl⟩ := c2 y.1 y.2 (by rw [e2])
    simp only [Option.isSome_some, if_true, Option.bind_some, toList_mk] at *
    by_cases h32 : T.size = 32
    ·
     simp only [if_pos (show (T.size : Int) = 32 by omega), if_pos (show b = true ∧ T.size = 32 from ⟨hb, h32⟩)]
     by_cases h5 : (undecV y.1).2 = 0
     ·
      simp only [if_pos h5]
      cases e4 : y.2 with
      | nil =>
       simp only [mk_size, List.length_nil, blankL, Option.bind_none]
       exact bad _ _ _
      | cons c t =>
       have hh := bt_head (mk (c :: t)) c t (toList_mk _)
       have hz : (mk (c :: t)).size = t.length + 1 := by rw [mk_size]; rfl
       simp only [hz, if_neg (show ¬ (((t.length + 1 : Nat) : Int) = 0) by omega), if_pos (show (0 : Int) < ((t.length + 1 : Nat) : Int) by omega), hh, blankL]
       by_cases h10 : c = 10
       ·
        subst h10
        have hne : ((((10 : UInt8).toNat : Nat) : Int) != 10) = false := rfl
        simp only [hne, if_true, Option.bind_some]
        have hex : (mk (10 :: t)).extract 1 (t.length + 1) = mk t := by
         apply ba_ext
         rw [toList_extract, toList_mk, toList_mk]
         simp
        refine Ev.step (f := fun k => (r7_CheckCommit.f k T ps (mk x.1) (undecV y.1).1 (mk t)).bind fun t190 => (if t190 = 0 then (some (T, ps, mk x.1, (undecV y.1).1, mk t, 0)) else (some (⟨#[]⟩, ([] : List ByteArray), ⟨#[]⟩, 0, ⟨#[]⟩, t190)))) (fun k => by rw [r7_GetCommit.j2, if_neg (by decide), hz, if_pos (by omega), hex]) ?_
        have q1 : y.2.length = t.length + 1 := by rw [e4]; rfl
        have q2 : (mk x.1).size ≤ 100000 ∧ (mk t).size ≤ 100000 := by
         simp only [mk_size] at *
         omega
        refine Ev.bind (chkc_ref T ps (mk x.1) _ (mk t) (by omega) (by omega) (by omega)) ?_
        show Ev _ (finC T ps (x.1, (undecV y.1).1, t))
        unfold finC
        by_cases h7 : chkC T ps (mk x.1) (mk t) = 0
        · simp only [if_pos h7]
          exact Ev.now _
        · simp only [if_neg h7]
          exact Ev.now _
       · have hne : ((c.toNat : Int) != 10) = true := bne_iff_ne.mpr (fun h => h10 (UInt8.toNat_inj.mp (by show c.toNat = 10; omega)))
         simp only [hne, if_neg h10, Option.bind_none]
         exact bad _ _ _
     · simp only [if_neg h5]
       have : (endC T ps ((blankL y.2).bind fun t => none)) = badC 6 := by cases blankL y.2 <;> rfl
       rw [this]
       exact bad _ _ _
    · simp only [if_neg (show ¬ (T.size : Int) = 32 by omega), if_neg (show ¬ (b = true ∧ T.size = 32) from fun h => h32 h.2)]
      exact bad _ _ _
 · simp only [if_neg hb, if_neg (show ¬ (b = true ∧ T.size = 32) from fun h => hb h.1)]
   exact bad _ _ _
theorem l0_ref : ∀ (f : Nat) (s : ByteArray) (acc : List ByteArray), s.size < f → acc.length + s.size ≤ 10000 →
 Ev (fun k => r7_GetCommit.l0 k s true T acc ⟨#[]⟩ 0 ⟨#[]⟩) (if T.size = 32 then runC T acc (parentsL f s.toList) else badC 6)
 | 0, s, acc, h, _ => by omega
 | f + 1, s, acc, h, hacc => by
  have l1 : (⟨#[112, 97, 114, 101, 110, 116]⟩ : ByteArray).toList = wParent := toList_lit _
  obtain ⟨p1, r1, h1, a1, b1, c1⟩ := ref_line s ⟨#[112, 97, 114, 101, 110, 116]⟩ (by omega) (by decide)
  rw [l1] at h1 c1
  rw [parentsL]
  refine Ev.step (fun k => by rw [r7_GetCommit.l0, if_pos rfl]) ?_
  refine Ev.bind h1 ?_
  cases e1 : lineL s.toList wParent with
  | none =>
   simp only [Option.isSome_none, if_neg (show ¬ (false = true) by decide)]
   have hj := j1_ref T s (by omega) true acc (by omega)
   have e : (if true = true ∧ T.size = 32 then endC T acc (restL s.toList) else badC 6) = (if T.size = 32 then runC T acc (some ([], s.toList)) else badC 6) := by
    by_cases h32 : T.size = 32
    · rw [if_pos ⟨rfl, h32⟩, if_pos h32]
      show _ = endC T (acc ++ []) (restL s.toList)
      rw [List.append_nil]
    · rw [if_neg (fun h => h32 h.2), if_neg h32]
   rw [e] at hj
   exact hj
  | some x =>
   obtain ⟨rfl, rfl⟩ := c1 x.1 x.2 (by rw [e1])
   have sx := lineL_short (t := x.1) (r := x.2) e1
   rw [toList_length] at sx
   simp only [Option.isSome_some, if_true]
   have hid := id_ref (mk x.1) (by rw [mk_size]; omega)
   rw [toList_mk] at hid
   refine Ev.bind hid ?_
   by_cases h5 : (idV x.1).2 = true
   ·
    have ih := l0_ref f (mk x.2) (acc ++ [(idV x.1).1]) (by rw [mk_size]; omega) (by rw [mk_size, List.length_append, List.length_singleton]; omega)
    rw [toList_mk] at ih
    simp only [if_pos h5, if_pos (show acc.length < 8796093022208 by omega)]
    cases hp : parentsL f x.2 with
    | none =>
     rw [hp] at ih
     exact ih
    | some p =>
     rw [hp] at ih
     simp only [Option.map_some]
     have e : runC T acc (some ((idV x.1).1.toList :: p.1, p.2)) = runC T (acc ++ [(idV x.1).1]) (some p) := by
      simp only [runC, List.map_cons, mk_toList, List.append_assoc, List.cons_append, List.nil_append]
     rw [e]
     exact ih
   · simp only [if_neg h5]
     have : (if T.size = 32 then runC T acc none else badC 6) = badC 6 := by split <;> rfl
     rw [this]
     exact Ev.now _
end
theorem idV_32 (l : List UInt8) : (idV l).2 = true ↔ (idV l).1.size = 32 := by
 unfold idV
 cases unhexL l with
 | none => exact ⟨fun h => (by cases h), fun h => absurd h (by decide)⟩
 | some r => simp [mk_size]
def commitV (s : ByteArray) : Com := match lineL s.toList wTree with
 | none => badC 6
 | some x => if (idV x.1).2 = true then runC (idV x.1).1 [] (parentsL (s.size + 1) x.2) else badC 6
theorem getc_prog (s : ByteArray) (hs : s.size ≤ 9990) : Ev (fun k => ob_GetCommit.f k s) (commitV s) := by
 have l1 : (⟨#[116, 114, 101, 101]⟩ : ByteArray).toList = wTree := toList_lit _
 obtain ⟨p1, r1, h1, a1, b1, c1⟩ := prog_line s ⟨#[116, 114, 101, 101]⟩ (by omega) (by decide)
 rw [l1] at h1 c1
 have bad : ∀ a b, Ev (fun k => ob_GetCommit.j0 k a b true (⟨#[]⟩ : ByteArray) (⟨#[]⟩ : ByteArray) 0 (⟨#[]⟩ : ByteArray) (⟨#[]⟩ : ByteArray) (⟨#[]⟩ : ByteArray) 0 (⟨#[]⟩ : ByteArray)) (badC 6) := fun a b =>
  Ev.step (f := fun _ => some (badC 6)) (fun k => by rw [ob_GetCommit.j0, if_pos rfl]; rfl) (Ev.now _)
 unfold ob_GetCommit.f commitV
 simp only [h1, Option.bind_some, id_prog p1 (show p1.size ≤ 70368744177664 by omega)]
 cases e1 : lineL s.toList wTree with
 | none => exact bad _ _
 | some x =>
  obtain ⟨rfl, rfl⟩ := c1 x.1 x.2 (by rw [e1])
  simp only [Option.isSome_some, if_true, toList_mk] at *
  by_cases h5 : (idV x.1).2 = true
  · simp only [h5, if_true, Bool.not_true]
    refine Ev.step (f := fun k => ob_GetCommit.l0 k (mk x.2) ⟨#[]⟩ ⟨#[]⟩ 0 ⟨#[]⟩ (idV x.1).1 ([] : List ByteArray) ⟨#[]⟩ 0 ⟨#[]⟩) (fun k => by rw [ob_GetCommit.j0, if_neg (by decide)]) ?_
    have := l0_prog (idV x.1).1 (s.size + 1) (mk x.2) [] (by omega) (by simp; omega)
    rw [toList_mk] at this
    exact this
  · rw [Bool.not_eq_true] at h5
    simp only [h5, Bool.not_false, if_neg (show ¬ (false = true) by decide)]
    exact bad _ _
theorem getc_ref (s : ByteArray) (hs : s.size ≤ 9990) : Ev (fun k => r7_GetCommit.f k s) (commitV s) := by
 have l1 : (⟨#[116, 114, 101, 101]⟩ : ByteArray).toList = wTree := toList_lit _
 obtain ⟨p1, r1, h1, a1, b1, c1⟩ := ref_line s ⟨#[116, 114, 101, 101]⟩ (by omega) (by decide)
 rw [l1] at h1 c1
 unfold r7_GetCommit.f commitV
 refine Ev.bind h1 (Ev.bind (id_ref p1 (by omega)) ?_)
 cases e1 : lineL s.toList wTree with
 | none =>
  simp only [Option.isSome_none]
  refine Ev.step (fun k => by rw [r7_GetCommit.l0, if_neg (by decide)]) ?_
  have := j1_ref (idV p1.toList).1 r1 (by omega) false [] (by simp)
  rw [if_neg (fun h => by cases h.1)] at this
  exact this
 | some x =>
  obtain ⟨rfl, rfl⟩ := c1 x.1 x.2 (by rw [e1])
  simp only [Option.isSome_some, toList_mk] at *
  have := l0_ref (idV x.1).1 (s.size + 1) (mk x.2) [] (by omega) (by simp; omega)
  rw [toList_mk] at this
  by_cases h5 : (idV x.1).2 = true
  · rw [if_pos ((idV_32 _).mp h5)] at this
    simp only [if_pos h5]
    exact this
  · rw [if_neg (fun h => h5 ((idV_32 _).mpr h))] at this
    simp only [if_neg h5]
    exact this
end Go.Proofs.YtnapcfpecpgdbaaDoor.Pl
