/- Trees: which entries may be one, its bytes, and that they are read again. -/
import Derived.Test.YtopdlgdacbonpaaMx3
import Derived.Test.YtopdlgdacbonpaaMx4
import Derived.Test.YtopdlgdacbonpaaMx7
import Derived.Test.YtopdlgdacbonpaaMx8
import Derived.Test.YtopdlgdacbonpaaMx5
import Derived.Test.YtopdlgdacbonpaaMx9
import Derived.Test.YtopdlgdacbonpaaPlBytes
import Derived.Test.YtopdlgdacbonpaaPlName
namespace Go.Proofs.Ytopdlgdacbonpaa.Pl
set_option linter.unusedVariables false
set_option linter.unusedSimpArgs false
open Go.RowKit Go.Proofs.Ytopdlgdacbonpaa.M Go.Proofs.YtopdlgdacbonpaaW.PrintWords Go.Proofs.YtopdlgdacbonpaaW.PrintLast

theorem awake06 : Ev (fun k => pollardlaw06_awake.f k) true := Ev.of (fun k => pollardlaw06_awake.mono k) (k := 100) (by decide +kernel)

/-- An entry, as the document's. -/
def cv (x : S36) : S40 := ⟨x.f0, x.f1, x.f2⟩

theorem rd_cv (l : List (S36)) (i : Int) : rd_T40 (l.map cv) i = cv (rd_T36 l i) := by
  unfold rd_T40 rd_T36
  simp only [List.getD, List.getElem?_map]
  cases l[i.toNat]? <;> rfl

theorem rd_nat (l : List (S36)) (i : Nat) (h : i < l.length) : rd_T36 l (i : Int) = l[i] := by
  unfold rd_T36
  simp [List.getD, h]

/-- May a text be a name? -/
def nameB (s : ByteArray) : Bool := label_Name.f s == some true

theorem name_some (s : ByteArray) (hs : s.size ≤ 140737488351232) : label_Name.f s = some (nameB s) ∧ Ev (fun k => pollardref05_Name.f k s) (nameB s) := by
  obtain ⟨r, h1, h2⟩ := name_eq s hs
  have : nameB s = r := by
    unfold nameB
    rw [h1]
    cases r <;> rfl
  rw [this]
  exact ⟨h1, h2⟩

/-- May entries be a tree, behind one of such a name? -/
def chk : Option ByteArray → List (S36) → Int
  | _, [] => 0
  | p, x :: l => if nameB x.f0 = false then 50 else if ¬ (1 ≤ x.f1 ∧ x.f1 ≤ 3) then 60 else if ¬ x.f2.size = 32 then 6 else match p with
    | none => chk (some x.f0) l
    | some q => if Op.bytesLess q.toList x.f0.toList = true then chk (some x.f0) l else 61

def prevOf (l : List (S36)) (i : Nat) : Option ByteArray := if i = 0 then none else some (rd_T36 l ((i - 1 : Nat) : Int)).f0

theorem prevOf_succ (l : List (S36)) (i : Nat) (h : i < l.length) : prevOf l (i + 1) = some (l[i]).f0 := by
  unfold prevOf
  rw [if_neg (by omega), Nat.add_sub_cancel, rd_nat l i h]

def Small (l : List (S36)) : Prop := ∀ x ∈ l, x.f0.size ≤ 140737488351232

theorem tchk (l : List (S36)) (hn : l.length ≤ 1000000) (hs : Small l) : ∀ (m i : Nat), i + m = l.length →
    Ev (fun k => tree_Check.l0 k l l (l.length : Int) (i : Int)) (chk (prevOf l i) (l.drop i)) := by
  intro m
  induction m with
  | zero =>
    intro i hi
    rw [List.drop_of_length_le (by omega)]
    refine Ev.step (f := fun _ => some 0) (fun k => ?_) (Ev.now _)
    simp only [tree_Check.l0]
    rw [if_neg (by omega)]
  | succ m ih =>
    intro i hi
    have hlt : i < l.length := by omega
    have ih' := ih (i + 1) (by omega)
    rw [prevOf_succ l i hlt] at ih'
    rw [List.drop_eq_getElem_cons hlt]
    have hnm := (name_some (l[i]).f0 (hs _ (List.getElem_mem hlt))).1
    have hx := rd_nat l i hlt
    have w1 : wrap64 ((i : Int) + 1) = ((i + 1 : Nat) : Int) := by rw [w64 (by omega) (by omega)]; rfl
    generalize l[i] = x at *
    generalize hr : nameB x.f0 = r at *
    have t1 : ∀ k, tree_Check.l0 (k + 1) l l (l.length : Int) (i : Int) = if r = true then tree_Check.j1 k l i l (l.length : Int) i (decide ¬ (1 ≤ x.f1 ∧ x.f1 ≤ 3)) x.f0 x.f1 x.f2 else some 50 := by
      intro k
      simp only [tree_Check.l0]
      rw [if_pos (by omega), if_pos (by omega), if_pos (by omega), hx, hnm]
      simp only [Option.bind_some]
      by_cases h0 : x.f1 < 1
      · rw [if_pos h0, decide_eq_true (show ¬ (1 ≤ x.f1 ∧ x.f1 ≤ 3) by omega)]
      · rw [if_neg h0, show decide (x.f1 > 3) = decide (¬ (1 ≤ x.f1 ∧ x.f1 ≤ 3)) from decide_eq_decide.mpr (by omega)]
    have t2 : ∀ k b, tree_Check.j1 (k + 1) l i l (l.length : Int) i b x.f0 x.f1 x.f2 = if b = true then some 60 else if (x.f2.size : Int) = 32 then (match prevOf l i with
        | none => tree_Check.l0 k l l (l.length : Int) ((i + 1 : Nat) : Int)
        | some q => if Op.bytesLess q.toList x.f0.toList = true then tree_Check.l0 k l l (l.length : Int) ((i + 1 : Nat) : Int) else some 61) else some 6 := by
      intro k b
      simp only [tree_Check.j1]
      by_cases hb : b = true
      · rw [if_pos hb, if_pos hb]
      rw [if_neg hb, if_neg hb]
      by_cases hz : (x.f2.size : Int) = 32
      rotate_left
      · rw [if_neg hz, if_neg hz]
      rw [if_pos hz, if_pos hz, w1]
      unfold prevOf
      by_cases hi0 : i = 0
      · rw [if_neg (show ¬ (i : Int) > 0 by omega), if_pos hi0]
      · have w2 : wrap64 ((i : Int) - 1) = ((i - 1 : Nat) : Int) := by rw [w64 (by omega) (by omega)]; omega
        rw [if_pos (show (i : Int) > 0 by omega), w2, if_pos (by omega), if_pos (by omega), if_neg hi0]
    refine Ev.step t1 ?_
    simp only [chk]
    cases r with
    | false =>
      rw [if_pos hr]
      exact Ev.congr (fun k => if_neg (by simp)) (Ev.now 50)
    | true =>
      rw [if_neg (by simp [hr])]
      refine Ev.congr (fun k => if_pos rfl) (Ev.step (fun k => t2 k _) ?_)
      by_cases hm : 1 ≤ x.f1 ∧ x.f1 ≤ 3
      · rw [if_neg (Classical.not_not.mpr hm)]
        refine Ev.congr (fun k => if_neg (by rw [decide_eq_false (Classical.not_not.mpr hm)]; simp)) ?_
        by_cases hz : x.f2.size = 32
        · rw [if_neg (Classical.not_not.mpr hz)]
          refine Ev.congr (fun k => if_pos (by omega)) ?_
          cases prevOf l i with
          | none => exact ih'
          | some q =>
            simp only
            by_cases hlss : Op.bytesLess q.toList x.f0.toList = true
            · rw [if_pos hlss]
              exact Ev.congr (fun k => if_pos hlss) ih'
            · rw [if_neg hlss]
              exact Ev.congr (fun k => if_neg hlss) (Ev.now 61)
        · rw [if_pos hz]
          exact Ev.congr (fun k => if_neg (by omega)) (Ev.now 6)
      · rw [if_pos hm]
        exact Ev.congr (fun k => if_pos (decide_eq_true hm)) (Ev.now 60)

theorem rchk (l : List (S36)) (hn : l.length ≤ 1000000) (hs : Small l) : ∀ (m i : Nat), i + m = l.length →
    Ev (fun k => pollardref06_Check.l0 k (l.map cv) (i : Int)) (chk (prevOf l i) (l.drop i)) := by
  intro m
  induction m with
  | zero =>
    intro i hi
    rw [List.drop_of_length_le (by omega)]
    refine Ev.step (f := fun _ => some 0) (fun k => ?_) (Ev.now _)
    simp only [pollardref06_Check.l0]
    rw [if_neg (by rw [List.length_map]; omega)]
  | succ m ih =>
    intro i hi
    have hlt : i < l.length := by omega
    have ih' := ih (i + 1) (by omega)
    rw [prevOf_succ l i hlt] at ih'
    rw [List.drop_eq_getElem_cons hlt]
    have hnm := (name_some (l[i]).f0 (hs _ (List.getElem_mem hlt))).2
    obtain ⟨y, hy⟩ : ∃ y, y = cv l[i] := ⟨_, rfl⟩
    have hx : rd_T40 (l.map cv) (i : Int) = y := by rw [rd_cv, rd_nat l i hlt, hy]
    have y0 : y.f0 = (l[i]).f0 := by rw [hy]; rfl
    have y1 : y.f1 = (l[i]).f1 := by rw [hy]; rfl
    have y2 : y.f2 = (l[i]).f2 := by rw [hy]; rfl
    clear hy
    have w1 : wrap64 ((i : Int) + 1) = ((i + 1 : Nat) : Int) := by rw [w64 (by omega) (by omega)]; rfl
    generalize l[i] = x at *
    generalize hr : nameB x.f0 = r at *
    have t2 : ∀ k b, pollardref06_Check.j1 (k + 1) (l.map cv) i b = if b = true then some 60 else if (x.f2.size : Int) = 32 then (match prevOf l i with
        | none => pollardref06_Check.l0 k (l.map cv) ((i + 1 : Nat) : Int)
        | some q => if Op.bytesLess q.toList x.f0.toList = true then pollardref06_Check.l0 k (l.map cv) ((i + 1 : Nat) : Int) else some 61) else some 6 := by
      intro k b
      simp only [pollardref06_Check.j1]
      by_cases hb : b = true
      · rw [if_pos hb, if_pos hb]
      rw [if_neg hb, if_neg hb, List.length_map, if_pos (show (0 : Int) ≤ i by omega), if_pos (show (i : Int) < l.length by omega), hx, y2, y0]
      by_cases hz : (x.f2.size : Int) = 32
      rotate_left
      · rw [if_neg hz, if_neg hz]
      rw [if_pos hz, if_pos hz, w1]
      unfold prevOf
      by_cases hi0 : i = 0
      · rw [if_neg (show ¬ (i : Int) > 0 by omega), if_pos hi0]
      · have w2 : wrap64 ((i : Int) - 1) = ((i - 1 : Nat) : Int) := by rw [w64 (by omega) (by omega)]; omega
        rw [if_pos (show (i : Int) > 0 by omega), w2, if_pos (by omega), if_pos (by omega), if_neg hi0, less_turn, rd_cv]
        have e0 : (cv (rd_T36 l ((i - 1 : Nat) : Int))).f0 = (rd_T36 l ((i - 1 : Nat) : Int)).f0 := rfl
        rw [e0]
        by_cases hq : Op.bytesLess (rd_T36 l ((i - 1 : Nat) : Int)).f0.toList x.f0.toList = true
        · rw [if_neg (by simp [hq])]
          exact (if_pos hq).symm
        · rw [if_pos (by simp [hq])]
          exact (if_neg hq).symm
    have t1 : ∀ k, pollardref06_Check.l0 (k + 1) (l.map cv) (i : Int) = (pollardref05_Name.f k x.f0).bind fun t => if t = true then pollardref06_Check.j1 k (l.map cv) i (decide ¬ (1 ≤ x.f1 ∧ x.f1 ≤ 3)) else some 50 := by
      intro k
      simp only [pollardref06_Check.l0]
      rw [if_pos (by rw [List.length_map]; omega), if_pos (by omega), hx, y0, y1]
      congr 1
      funext t
      congr 1
      by_cases h0 : x.f1 < 1
      · rw [if_pos h0, decide_eq_true (show ¬ (1 ≤ x.f1 ∧ x.f1 ≤ 3) by omega)]
      · rw [if_neg h0, show decide (x.f1 > 3) = decide (¬ (1 ≤ x.f1 ∧ x.f1 ≤ 3)) from decide_eq_decide.mpr (by omega)]
    refine Ev.step t1 (Ev.bind hnm ?_)
    simp only [chk]
    cases r with
    | false =>
      rw [if_pos hr]
      exact Ev.congr (fun k => if_neg (by simp)) (Ev.now 50)
    | true =>
      rw [if_neg (by simp [hr])]
      refine Ev.congr (fun k => if_pos rfl) (Ev.step (fun k => t2 k _) ?_)
      by_cases hm : 1 ≤ x.f1 ∧ x.f1 ≤ 3
      · rw [if_neg (Classical.not_not.mpr hm)]
        refine Ev.congr (fun k => if_neg (by rw [decide_eq_false (Classical.not_not.mpr hm)]; simp)) ?_
        by_cases hz : x.f2.size = 32
        · rw [if_neg (Classical.not_not.mpr hz)]
          refine Ev.congr (fun k => if_pos (by omega)) ?_
          cases prevOf l i with
          | none => exact ih'
          | some q =>
            simp only
            by_cases hlss : Op.bytesLess q.toList x.f0.toList = true
            · rw [if_pos hlss]
              exact Ev.congr (fun k => if_pos hlss) ih'
            · rw [if_neg hlss]
              exact Ev.congr (fun k => if_neg hlss) (Ev.now 61)
        · rw [if_pos hz]
          exact Ev.congr (fun k => if_neg (by omega)) (Ev.now 6)
      · rw [if_pos hm]
        exact Ev.congr (fun k => if_pos (decide_eq_true hm)) (Ev.now 60)

/-- May entries be a tree? -/
def chkAll (l : List (S36)) : Int := if l.length > 256 then 3 else chk none l

theorem tcheck (l : List (S36)) (hs : Small l) : Ev (fun k => tree_Check.f k l) (chkAll l) := by
  unfold tree_Check.f chkAll
  by_cases h : l.length > 256
  · rw [if_pos h]
    exact Ev.congr (fun k => if_pos (by omega)) (Ev.now _)
  · rw [if_neg h]
    exact Ev.congr (fun k => if_neg (by omega)) (tchk l (by omega) hs l.length 0 (by omega))

theorem rcheck (l : List (S36)) (hs : Small l) : Ev (fun k => pollardref06_Check.f k (l.map cv)) (chkAll l) := by
  unfold pollardref06_Check.f chkAll
  rw [List.length_map]
  by_cases h : l.length > 256
  · rw [if_pos h]
    exact Ev.congr (fun k => if_pos (by omega)) (Ev.now _)
  · rw [if_neg h]
    exact Ev.congr (fun k => if_neg (by omega)) (rchk l (by omega) hs l.length 0 (by omega))

/-- An entry that may be in a tree. -/
def Good (x : S36) : Prop := nameB x.f0 = true ∧ 1 ≤ x.f1 ∧ x.f1 ≤ 3 ∧ x.f2.size = 32

theorem chk_good : ∀ (l : List (S36)) (p : Option ByteArray), chk p l = 0 → ∀ x ∈ l, Good x
  | [], _, _ => by simp
  | y :: l, p, h => by
    simp only [chk] at h
    by_cases h1 : nameB y.f0 = false
    · rw [if_pos h1] at h
      omega
    rw [if_neg h1] at h
    by_cases h2 : 1 ≤ y.f1 ∧ y.f1 ≤ 3
    · rw [if_neg (Classical.not_not.mpr h2)] at h
      by_cases h3 : y.f2.size = 32
      · rw [if_neg (Classical.not_not.mpr h3)] at h
        have hl : chk (some y.f0) l = 0 := by
          cases p with
          | none => exact h
          | some q =>
            simp only at h
            by_cases h4 : Op.bytesLess q.toList y.f0.toList = true
            · rw [if_pos h4] at h
              exact h
            · rw [if_neg h4] at h
              omega
        intro x hx
        rcases List.mem_cons.mp hx with rfl | hx
        · exact ⟨by simpa using h1, h2.1, h2.2, h3⟩
        · exact chk_good l _ hl x hx
      · rw [if_pos h3] at h
        omega
    · rw [if_pos h2] at h
      omega
end Go.Proofs.Ytopdlgdacbonpaa.Pl
