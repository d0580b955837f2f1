/- Trees' bytes, read by the program and by the reference. -/
import Derived.Test.YtnapcfpecpgdbaaDoorMx13
import Derived.Test.YtnapcfpecpgdbaaDoorMx12
import Derived.Test.YtnapcfpecpgdbaaDoorMx22
import Derived.Test.YtnapcfpecpgdbaaDoorMx23
import Derived.Test.YtnapcfpecpgdbaaDoorPlBytes
import Derived.Test.YtnapcfpecpgdbaaDoorPlName
import Derived.Test.YtnapcfpecpgdbaaDoorPl07c
import Derived.Test.YtnapcfpecpgdbaaDoorPl07x
import Derived.Test.YtnapcfpecpgdbaaDoorPlRefT
import Derived.Test.YtnapcfpecpgdbaaDoorMx11
import Derived.Test.YtnapcfpecpgdbaaDoorMx25
import Derived.Test.YtnapcfpecpgdbaaDoorMx26
import Derived.Test.YtnapcfpecpgdbaaDoorMx6
import Derived.Test.YtnapcfpecpgdbaaDoorPl07w
import Derived.Test.YtnapcfpecpgdbaaDoorPl07g
import Derived.Test.YtnapcfpecpgdbaaDoorMx14
import Derived.Test.YtnapcfpecpgdbaaDoorMx27
import Derived.Test.YtnapcfpecpgdbaaDoorMx28
namespace Go.Proofs.YtnapcfpecpgdbaaDoor.Pl.T6
set_option linter.unusedVariables false
set_option linter.unusedSimpArgs false
open Go.RowKit Go.Proofs.YtnapcfpecpgdbaaDoor.M Go.Proofs.YtnapcfpecpgdbaaDoorW.PrintWords Go.Proofs.YtnapcfpecpgdbaaDoorW.PrintLast


/-- An entry, as the document's. -/
def cv (x : S82) : S86 := ⟨x.f0, x.f1, x.f2⟩

theorem rd_cv (l : List (S82)) (i : Int) : rd_T86 (l.map cv) i = cv (rd_T82 l i) := by
 unfold rd_T86 rd_T82
 simp only [List.getD, List.getElem?_map]
 cases l[i.toNat]? <;> rfl

theorem rd_nat (l : List (S82)) (i : Nat) (h : i < l.length) : rd_T82 l (i : Int) = l[i] := by
 unfold rd_T82
 simp [List.getD, h]

/-- May a text be a name? -/
def nameB (s : ByteArray) : Bool := label_Name.f s == some true

theorem name_some (s : ByteArray) (hs : s.size ≤ 140737488351232) : label_Name.f s = some (nameB s) ∧ Ev (fun k => r5_Name.f k s) (nameB s) := by
 obtain ⟨r, h1, h2⟩ := name_eq s hs
 have : nameB s = r := by
  unfold nameB
  rw [h1]
  cases r <;> rfl
 rw [this]
 exact ⟨h1, h2⟩

/-- May entries be a tree, behind one of such a name? -/
def chk : Option ByteArray → List (S82) → Int
 | _, [] => 0
 | p, x :: l => if nameB x.f0 = false then 50 else if ¬ (1 ≤ x.f1 ∧ x.f1 ≤ 3) then 60 else if ¬ x.f2.size = 32 then 6 else match p with
  | none => chk (some x.f0) l
  | some q => if Op.bytesLess q.toList x.f0.toList = true then chk (some x.f0) l else 61

def prevOf (l : List (S82)) (i : Nat) : Option ByteArray := if i = 0 then none else some (rd_T82 l ((i - 1 : Nat) : Int)).f0

theorem prevOf_succ (l : List (S82)) (i : Nat) (h : i < l.length) : prevOf l (i + 1) = some (l[i]).f0 := by
 unfold prevOf
 rw [if_neg (by omega), Nat.add_sub_cancel, rd_nat l i h]

def Small (l : List (S82)) : Prop := ∀ x ∈ l, x.f0.size ≤ 140737488351232

theorem tchk (l : List (S82)) (hn : l.length ≤ 1000000) (hs : Small l) : ∀ (m i : Nat), i + m = l.length →
 Ev (fun k => tree_Check.l0 k l l (l.length : Int) (i : Int)) (chk (prevOf l i) (l.drop i)) := by
 intro m
 induction m with
 | zero =>
  intro i hi
  rw [List.drop_of_length_le (by omega)]
  refine Ev.step (f := fun _ => some 0) (fun k => ?_) (Ev.now _)
  simp only [tree_Check.l0]
  rw [if_neg (by omega)]
 | succ m ih =>
  intro i hi
  have hlt : i < l.length := by omega
  have ih' := ih (i + 1) (by omega)
  rw [prevOf_succ l i hlt] at ih'
  rw [List.drop_eq_getElem_cons hlt]
  have hnm := (name_some (l[i]).f0 (hs _ (List.getElem_mem hlt))).1
  have hx := rd_nat l i hlt
  have w1 : wrap64 ((i : Int) + 1) = ((i + 1 : Nat) : Int) := by rw [w64 (by omega) (by omega)]; rfl
  generalize l[i] = x at *
  generalize hr : nameB x.f0 = r at *
  have t1 : ∀ k, tree_Check.l0 (k + 1) l l (l.length : Int) (i : Int) = if r = true then tree_Check.j1 k l i l (l.length : Int) i (decide ¬ (1 ≤ x.f1 ∧ x.f1 ≤ 3)) x.f0 x.f1 x.f2 else some 50 := by
   intro k
   simp only [tree_Check.l0]
   rw [if_pos (by omega), if_pos (by omega), if_pos (by omega), hx, hnm]
   simp only [Option.bind_some]
   by_cases h0 : x.f1 < 1
   · rw [if_pos h0, decide_eq_true (show ¬ (1 ≤ x.f1 ∧ x.f1 ≤ 3) by omega)]
   · rw [if_neg h0, show decide (x.f1 > 3) = decide (¬ (1 ≤ x.f1 ∧ x.f1 ≤ 3)) from decide_eq_decide.mpr (by omega)]
  have t2 : ∀ k b, tree_Check.j1 (k + 1) l i l (l.length : Int) i b x.f0 x.f1 x.f2 = if b = true then some 60 else if (x.f2.size : Int) = 32 then (match prevOf l i with
   | none => tree_Check.l0 k l l (l.length : Int) ((i + 1 : Nat) : Int)
   | some q => if Op.bytesLess q.toList x.f0.toList = true then tree_Check.l0 k l l (l.length : Int) ((i + 1 : Nat) : Int) else some 61) else some 6 := by
   intro k b
   simp only [tree_Check.j1]
   by_cases hb : b = true
   · rw [if_pos hb, if_pos hb]
   rw [if_neg hb, if_neg hb]
   by_cases hz : (x.f2.size : Int) = 32
   rotate_left
   · rw [if_neg hz, if_neg hz]
   rw [if_pos hz, if_pos hz, w1]
   unfold prevOf
   by_cases hi0 : i = 0
   · rw [if_neg (show ¬ (i : Int) > 0 by omega), if_pos hi0]
   · have w2 : wrap64 ((i : Int) - 1) = ((i - 1 : Nat) : Int) := by rw [w64 (by omega) (by omega)]; omega
     rw [if_pos (show (i : Int) > 0 by omega), w2, if_pos (by omega), if_pos (by omega), if_neg hi0]
  refine Ev.step t1 ?_
  simp only [chk]
  cases r with
  | false =>
   rw [if_pos hr]
   exact Ev.congr (fun k => if_neg (by simp)) (Ev.now 50)
  | true =>
   rw [if_neg (by simp [hr])]
   refine Ev.congr (fun k => if_pos rfl) (Ev.step (fun k => t2 k _) ?_)
   by_cases hm : 1 ≤ x.f1 ∧ x.f1 ≤ 3
   ·
    rw [if_neg (Classical.not_not.mpr hm)]
    refine Ev.congr (fun k => if_neg (by rw [decide_eq_false (Classical.not_not.mpr hm)]; simp)) ?_
    by_cases hz : x.f2.size = 32
    · rw [if_neg (Classical.not_not.mpr hz)]
      refine Ev.congr (fun k => if_pos (by omega)) ?_
      cases prevOf l i with
      | none => exact ih'
      | some q =>
       simp only
       by_cases hlss : Op.bytesLess q.toList x.f0.toList = true
       · rw [if_pos hlss]
         exact Ev.congr (fun k => if_pos hlss) ih'
       · rw [if_neg hlss]
         exact Ev.congr (fun k => if_neg hlss) (Ev.now 61)
    · rw [if_pos hz]
      exact Ev.congr (fun k => if_neg (by omega)) (Ev.now 6)
   · rw [if_pos hm]
     exact Ev.congr (fun k => if_pos (decide_eq_true hm)) (Ev.now 60)

theorem rchk (l : List (S82)) (hn : l.length ≤ 1000000) (hs : Small l) : ∀ (m i : Nat), i + m = l.length →
 Ev (fun k => r6_Check.l0 k (l.map cv) (i : Int)) (chk (prevOf l i) (l.drop i)) := by
 intro m
 induction m with
 | zero =>
  intro i hi
  rw [List.drop_of_length_le (by omega)]
  refine Ev.step (f := fun _ => some 0) (fun k => ?_) (Ev.now _)
  simp only [r6_Check.l0]
  rw [if_neg (by rw [List.length_map]; omega)]
 | succ m ih =>
  intro i hi
  have hlt : i < l.length := by omega
  have ih' := ih (i + 1) (by omega)
  rw [prevOf_succ l i hlt] at ih'
  rw [List.drop_eq_getElem_cons hlt]
  have hnm := (name_some (l[i]).f0 (hs _ (List.getElem_mem hlt))).2
  obtain ⟨y, hy⟩ : ∃ y, y = cv l[i] := ⟨_, rfl⟩
  have hx : rd_T86 (l.map cv) (i : Int) = y := by rw [rd_cv, rd_nat l i hlt, hy]
  have y0 : y.f0 = (l[i]).f0 := by rw [hy]; rfl
  have y1 : y.f1 = (l[i]).f1 := by rw [hy]; rfl
  have y2 : y.f2 = (l[i]).f2 := by rw [hy]; rfl
  clear hy
  have w1 : wrap64 ((i : Int) + 1) = ((i + 1 : Nat) : Int) := by rw [w64 (by omega) (by omega)]; rfl
  generalize l[i] = x at *
  generalize hr : nameB x.f0 = r at *
  have t2 : ∀ k b, r6_Check.j1 (k + 1) (l.map cv) i b = if b = true then some 60 else if (x.f2.size : Int) = 32 then (match prevOf l i with
   | none => r6_Check.l0 k (l.map cv) ((i + 1 : Nat) : Int)
   | some q => if Op.bytesLess q.toList x.f0.toList = true then r6_Check.l0 k (l.map cv) ((i + 1 : Nat) : Int) else some 61) else some 6 := by
   intro k b
   simp only [r6_Check.j1]
   by_cases hb : b = true
   · rw [if_pos hb, if_pos hb]
   rw [if_neg hb, if_neg hb, List.length_map, if_pos (show (0 : Int) ≤ i by omega), if_pos (show (i : Int) < l.length by omega), hx, y2, y0]
   by_cases hz : (x.f2.size : Int) = 32
   rotate_left
   · rw [if_neg hz, if_neg hz]
   rw [if_pos hz, if_pos hz, w1]
   unfold prevOf
   by_cases hi0 : i = 0
   · rw [if_neg (show ¬ (i : Int) > 0 by omega), if_pos hi0]
   · have w2 : wrap64 ((i : Int) - 1) = ((i - 1 : Nat) : Int) := by rw [w64 (by omega) (by omega)]; omega
     rw [if_pos (show (i : Int) > 0 by omega), w2, if_pos (by omega), if_pos (by omega), if_neg hi0, less_turn, rd_cv]
     have e0 : (cv (rd_T82 l ((i - 1 : Nat) : Int))).f0 = (rd_T82 l ((i - 1 : Nat) : Int)).f0 := rfl
     rw [e0]
     by_cases hq : Op.bytesLess (rd_T82 l ((i - 1 : Nat) : Int)).f0.toList x.f0.toList = true
     · rw [if_neg (by simp [hq])]
       exact (if_pos hq).symm
     · rw [if_pos (by simp [hq])]
       exact (if_neg hq).symm
  have t1 : ∀ k, r6_Check.l0 (k + 1) (l.map cv) (i : Int) = (r5_Name.f k x.f0).bind fun t => if t = true then r6_Check.j1 k (l.map cv) i (decide ¬ (1 ≤ x.f1 ∧ x.f1 ≤ 3)) else some 50 := by
   intro k
   simp only [r6_Check.l0]
   rw [if_pos (by rw [List.length_map]; omega), if_pos (by omega), hx, y0, y1]
   congr 1
   funext t
   congr 1
   by_cases h0 : x.f1 < 1
   · rw [if_pos h0, decide_eq_true (show ¬ (1 ≤ x.f1 ∧ x.f1 ≤ 3) by omega)]
   · rw [if_neg h0, show decide (x.f1 > 3) = decide (¬ (1 ≤ x.f1 ∧ x.f1 ≤ 3)) from decide_eq_decide.mpr (by omega)]
  refine Ev.step t1 (Ev.bind hnm ?_)
  simp only [chk]
  cases r with
  | false =>
   rw [if_pos hr]
   exact Ev.congr (fun k => if_neg (by simp)) (Ev.now 50)
  | true =>
   rw [if_neg (by simp [hr])]
   refine Ev.congr (fun k => if_pos rfl) (Ev.step (fun k => t2 k _) ?_)
   by_cases hm : 1 ≤ x.f1 ∧ x.f1 ≤ 3
   ·
    rw [if_neg (Classical.not_not.mpr hm)]
    refine Ev.congr (fun k => if_neg (by rw [decide_eq_false (Classical.not_not.mpr hm)]; simp)) ?_
    by_cases hz : x.f2.size = 32
    · rw [if_neg (Classical.not_not.mpr hz)]
      refine Ev.congr (fun k => if_pos (by omega)) ?_
      cases prevOf l i with
      | none => exact ih'
      | some q =>
       simp only
       by_cases hlss : Op.bytesLess q.toList x.f0.toList = true
       · rw [if_pos hlss]
         exact Ev.congr (fun k => if_pos hlss) ih'
       · rw [if_neg hlss]
         exact Ev.congr (fun k => if_neg hlss) (Ev.now 61)
    · rw [if_pos hz]
      exact Ev.congr (fun k => if_neg (by omega)) (Ev.now 6)
   · rw [if_pos hm]
     exact Ev.congr (fun k => if_pos (decide_eq_true hm)) (Ev.now 60)

/-- May entries be a tree? -/
def chkAll (l : List (S82)) : Int := if l.length > 256 then 3 else chk none l

theorem tcheck (l : List (S82)) (hs : Small l) : Ev (fun k => tree_Check.f k l) (chkAll l) := by
 unfold tree_Check.f chkAll
 by_cases h : l.length > 256
 · rw [if_pos h]
   exact Ev.congr (fun k => if_pos (by omega)) (Ev.now _)
 · rw [if_neg h]
   exact Ev.congr (fun k => if_neg (by omega)) (tchk l (by omega) hs l.length 0 (by omega))

theorem rcheck (l : List (S82)) (hs : Small l) : Ev (fun k => r6_Check.f k (l.map cv)) (chkAll l) := by
 unfold r6_Check.f chkAll
 rw [List.length_map]
 by_cases h : l.length > 256
 · rw [if_pos h]
   exact Ev.congr (fun k => if_pos (by omega)) (Ev.now _)
 · rw [if_neg h]
   exact Ev.congr (fun k => if_neg (by omega)) (rchk l (by omega) hs l.length 0 (by omega))

/-- An entry that may be in a tree. -/
def Good (x : S82) : Prop := nameB x.f0 = true ∧ 1 ≤ x.f1 ∧ x.f1 ≤ 3 ∧ x.f2.size = 32

theorem chk_good : ∀ (l : List (S82)) (p : Option ByteArray), chk p l = 0 → ∀ x ∈ l, Good x
 | [], _, _ => by simp
 | y :: l, p, h => by
  simp only [chk] at h
  by_cases h1 : nameB y.f0 = false
  · rw [if_pos h1] at h
    omega
  rw [if_neg h1] at h
  by_cases h2 : 1 ≤ y.f1 ∧ y.f1 ≤ 3
  ·
   rw [if_neg (Classical.not_not.mpr h2)] at h
   by_cases h3 : y.f2.size = 32
   ·
    rw [if_neg (Classical.not_not.mpr h3)] at h
    have hl : chk (some y.f0) l = 0 := by
     cases p with
     | none => exact h
     | some q =>
      simp only at h
      by_cases h4 : Op.bytesLess q.toList y.f0.toList = true
      · rw [if_pos h4] at h
        exact h
      · rw [if_neg h4] at h
        omega
    intro x hx
    rcases List.mem_cons.mp hx with rfl | hx
    · exact ⟨by simpa using h1, h2.1, h2.2, h3⟩
    · exact chk_good l _ hl x hx
   · rw [if_pos h3] at h
     omega
  · rw [if_pos h2] at h
    omega
end Go.Proofs.YtnapcfpecpgdbaaDoor.Pl.T6

namespace Go.Proofs.YtnapcfpecpgdbaaDoor.Pl.T6
set_option linter.unusedVariables false
set_option linter.unusedSimpArgs false
open Go.RowKit Go.Proofs.YtnapcfpecpgdbaaDoor.M Go.Proofs.YtnapcfpecpgdbaaDoorW.PrintWords Go.Proofs.YtnapcfpecpgdbaaDoorW.PrintLast

theorem cut1 (s : ByteArray) (c : UInt8) (hs : s.size ≤ 140737488351232) : strings_Cut.f s ⟨#[c]⟩ = if 0 ≤ Lib.indexByte s.toList c then some (s.extract 0 (Lib.indexByte s.toList c).toNat, s.extract ((Lib.indexByte s.toList c).toNat + 1) s.size, true) else some (s, (⟨#[]⟩ : ByteArray), false) := by
 unfold strings_Cut.f
 rw [if_pos ⟨rfl, hs⟩, toList_eq]
 rfl

/-- The word of a mode. -/
def word (m : Int) : List UInt8 := if m = 1 then [102, 105, 108, 101] else if m = 2 then [114, 117, 110] else if m = 3 then [116, 114, 101, 101] else []

theorem refmode (m : Int) (h : 1 ≤ m ∧ m ≤ 3) : r6_mode.f m = some ⟨(word m).toArray⟩ := by
 have : m = 1 ∨ m = 2 ∨ m = 3 := by omega
 rcases this with rfl | rfl | rfl <;> rfl

/-- Which of the modes' words a text is. -/
def idx (w : List UInt8) : Int := if w = [] then 0 else if w = word 1 then 1 else if w = word 2 then 2 else if w = word 3 then 3 else -1

theorem index_modes (w : ByteArray) : Ev (fun k => (tree_modes.f).bind fun t => sIx.f k t w) (idx w.toList) := by
 refine ⟨5, fun k hk => ?_⟩
 obtain ⟨k, rfl⟩ : ∃ j, k = j + 5 := ⟨k - 5, by omega⟩
 have r0 : ∀ l : List UInt8, (⟨⟨l⟩⟩ : ByteArray).toList = l := fun l => by rw [toList_eq]
 have w0 : wrap64 (0 + 1) = 1 := by unfold wrap64; omega
 have w1 : wrap64 (1 + 1) = 2 := by unfold wrap64; omega
 have w2 : wrap64 (2 + 1) = 3 := by unfold wrap64; omega
 have w3 : wrap64 (3 + 1) = 4 := by unfold wrap64; omega
 unfold tree_modes.f sIx.f
 simp only [Option.bind_some, sIx.l0, List.length_cons, List.length_nil, w0, w1, w2, w3, rdOf, Int.toNat_zero, show (1 : Int).toNat = 1 from rfl, show (2 : Int).toNat = 2 from rfl, show (3 : Int).toNat = 3 from rfl, List.getD_cons_zero, List.getD_cons_succ, r0]
 unfold idx word
 generalize w.toList = l
 simp
 repeat' split
 all_goals rfl

/-- The mode's word ahead of a name, and the name. -/
def modeOf (h : ByteArray) : Option (Int × ByteArray) :=
 if h.toList.take 5 = word 1 ++ [32] then some (1, h.extract 5 h.size) else if h.toList.take 4 = word 2 ++ [32] then some (2, h.extract 4 h.size) else if h.toList.take 5 = word 3 ++ [32] then some (3, h.extract 5 h.size) else none

/-- An entry at the front of bytes; what is behind it; or the error. -/
inductive Ent where
 | bad (e : Int)
 | ok (x : S82) (r : ByteArray)

def ent (s : ByteArray) : Ent :=
 if Lib.indexByte s.toList 0 < 0 ∨ (s.size : Int) - Lib.indexByte s.toList 0 - 1 < 32 then .bad 4
 else match modeOf (s.extract 0 (Lib.indexByte s.toList 0).toNat) with
  | none => .bad 60
  | some (m, n) => .ok ⟨n, m, s.extract ((Lib.indexByte s.toList 0).toNat + 1) ((Lib.indexByte s.toList 0).toNat + 33)⟩ (s.extract ((Lib.indexByte s.toList 0).toNat + 33) s.size)

def entVal : Ent → ByteArray × Int × ByteArray × ByteArray × Int
 | .bad e => ((⟨#[]⟩ : ByteArray), 0, (⟨#[]⟩ : ByteArray), (⟨#[]⟩ : ByteArray), e)
 | .ok x r => (x.f0, x.f1, x.f2, r, 0)

theorem idx_word (l : List UInt8) (n : Nat) (h : Lib.indexByte l 32 = (n : Int)) (m : Int) (hm : 1 ≤ m ∧ m ≤ 3) : idx (l.take n) = m ↔ l.take ((word m).length + 1) = word m ++ [32] := by
 obtain ⟨h1, h2, h3⟩ := index_split h
 have hw : 32 ∉ word m ∧ idx (word m) = m := by
  have : m = 1 ∨ m = 2 ∨ m = 3 := by omega
  rcases this with rfl | rfl | rfl <;> decide
 constructor
 ·
  intro hi
  have e : l.take n = word m := by
   unfold idx at hi
   split at hi
   · omega
   split at hi
   · subst hi; assumption
   split at hi
   · subst hi; assumption
   split at hi
   · subst hi; assumption
   · omega
  have hn : n = (word m).length := by
   rw [← e, List.length_take]
   omega
  rw [hn] at h1 e
  rw [e] at h1
  generalize l.drop ((word m).length + 1) = rest at h1
  rw [h1, List.append_cons]
  exact List.take_left' (by rw [List.length_append]; rfl)
 · intro ht
   have hl : l = word m ++ 32 :: l.drop ((word m).length + 1) := by
    conv => lhs; rw [← List.take_append_drop ((word m).length + 1) l, ht]
    simp
   have hi := index_first (word m) (l.drop ((word m).length + 1)) 32 hw.1
   rw [← hl, h] at hi
   have hn : n = (word m).length := by omega
   rw [hn]
   have : l.take (word m).length = word m := by
    rw [hl]
    simp
   rw [this, hw.2]

theorem modeOf_eq (h : ByteArray) (hs : h.size ≤ 140737488351232) : modeOf h = if 0 ≤ Lib.indexByte h.toList 32 ∧ 1 ≤ idx (h.toList.take (Lib.indexByte h.toList 32).toNat) then some (idx (h.toList.take (Lib.indexByte h.toList 32).toNat), h.extract ((Lib.indexByte h.toList 32).toNat + 1) h.size) else none := by
 by_cases hi : 0 ≤ Lib.indexByte h.toList 32
 ·
  obtain ⟨n, hn⟩ := Int.eq_ofNat_of_zero_le hi
  have k1 := idx_word h.toList n hn 1 (by omega)
  have k2 := idx_word h.toList n hn 2 (by omega)
  have k3 := idx_word h.toList n hn 3 (by omega)
  rw [show (word 1).length + 1 = 5 from rfl] at k1
  rw [show (word 2).length + 1 = 4 from rfl] at k2
  rw [show (word 3).length + 1 = 5 from rfl] at k3
  rw [hn, Int.toNat_natCast]
  unfold modeOf
  have hlen : ∀ w : List UInt8, idx w ≤ 3 := by
   intro w
   unfold idx
   repeat' split
   all_goals omega
  have len : ∀ m, 1 ≤ m ∧ m ≤ 3 → idx (h.toList.take n) = m → n = (word m).length := by
   intro m hm e
   have := (idx_word h.toList n hn m hm).mp e
   have hw : 32 ∉ word m := by
    have : m = 1 ∨ m = 2 ∨ m = 3 := by omega
    rcases this with rfl | rfl | rfl <;> decide
   have hl : h.toList = word m ++ 32 :: h.toList.drop ((word m).length + 1) := by
    conv => lhs; rw [← List.take_append_drop ((word m).length + 1) h.toList, this]
    simp
   have hf := index_first (word m) (h.toList.drop ((word m).length + 1)) 32 hw
   rw [← hl, hn] at hf
   omega
  by_cases c1 : idx (h.toList.take n) = 1
  · rw [if_pos (k1.mp c1), if_pos ⟨by omega, by omega⟩, c1, len 1 (by omega) c1]
    rfl
  rw [if_neg (fun e => c1 (k1.mpr e))]
  by_cases c2 : idx (h.toList.take n) = 2
  · rw [if_pos (k2.mp c2), if_pos ⟨by omega, by omega⟩, c2, len 2 (by omega) c2]
    rfl
  rw [if_neg (fun e => c2 (k2.mpr e))]
  by_cases c3 : idx (h.toList.take n) = 3
  · rw [if_pos (k3.mp c3), if_pos ⟨by omega, by omega⟩, c3, len 3 (by omega) c3]
    rfl
  have := hlen (h.toList.take n)
  rw [if_neg (fun e => c3 (k3.mpr e)), if_neg (by omega)]
 · rw [if_neg (fun e => hi e.1)]
   have hn : 32 ∉ h.toList := (index_absent _ _).mpr (by have := Lib.indexByte_ge h.toList 32; omega)
   unfold modeOf
   have no : ∀ (k : Nat) (w : List UInt8), ¬ h.toList.take k = w ++ [32] := by
    intro k w e
    refine hn (List.mem_of_mem_take (i := k) ?_)
    rw [e]
    simp
   rw [if_neg (no _ _), if_neg (no _ _), if_neg (no _ _)]

theorem tentry (s : ByteArray) (hs : s.size ≤ 140737488351232) : Ev (fun k => tree_entry.f k s) (entVal (ent s)) := by
 unfold tree_entry.f ent
 rw [cut1 s 0 hs]
 have hge := Lib.indexByte_ge s.toList 0
 by_cases hz : 0 ≤ Lib.indexByte s.toList 0
 ·
  rw [if_pos hz]
  simp only [Option.bind_some, if_true]
  obtain ⟨z, hz'⟩ := Int.eq_ofNat_of_zero_le hz
  obtain ⟨_, _, hlt⟩ := index_split hz'
  rw [toList_length] at hlt
  rw [hz', Int.toNat_natCast]
  by_cases hl : (s.size : Int) - z - 1 < 32
  · rw [if_pos (.inr hl)]
    refine Ev.step (f := fun _ => some _) (fun k => ?_) (Ev.now _)
    simp only [tree_entry.j0]
    rw [if_pos (decide_eq_true (by rw [extract_size]; omega))]
    rfl
  ·
   rw [if_neg (by omega)]
   have hh : (s.extract 0 z).size ≤ 140737488351232 := by
    rw [ByteArray.size_extract]
    omega
   refine Ev.step (f := fun k => (strings_Cut.f (s.extract 0 z) (⟨#[32]⟩ : ByteArray)).bind fun bt113 => ((tree_modes.f).bind fun t116 => sIx.f k t116 bt113.1).bind fun t119 => (if bt113.2.2 = true then (if t119 < 1 then (some ((⟨#[]⟩ : ByteArray), 0, (⟨#[]⟩ : ByteArray), (⟨#[]⟩ : ByteArray), 60)) else some (bt113.2.1, t119, (s.extract (z + 1) s.size).extract 0 32, (s.extract (z + 1) s.size).extract 32 (s.extract (z + 1) s.size).size, 0)) else (some ((⟨#[]⟩ : ByteArray), 0, (⟨#[]⟩ : ByteArray), (⟨#[]⟩ : ByteArray), 60)))) (fun k => ?_) ?_
   ·
    simp only [tree_entry.j0]
    rw [if_neg (by rw [decide_eq_false (by rw [extract_size]; omega)]; simp)]
    congr 1
    funext bt
    rw [Option.bind_assoc]
    congr 1
    funext t
    congr 1
    funext u
    by_cases hb : bt.2.2 = true
    · rw [if_pos hb, if_pos hb]
      by_cases hu : u < 1
      · rw [if_pos hu, if_pos hu]
      · rw [if_neg hu, if_neg hu, if_pos (show (0 : Nat) ≤ 32 by omega), if_pos (by rw [extract_size]; omega)]
    · rw [if_neg hb, if_neg hb]
   ·
    have me := modeOf_eq _ hh
    rw [cut1 _ 32 hh]
    generalize s.extract 0 z = h at *
    by_cases hi : 0 ≤ Lib.indexByte h.toList 32
    ·
     rw [if_pos hi]
     simp only [Option.bind_some, if_true]
     have im := index_modes (h.extract 0 (Lib.indexByte h.toList 32).toNat)
     rw [toList_extract, List.drop_zero, Nat.sub_zero] at im
     refine Ev.bind im ?_
     by_cases hx : 1 ≤ idx (h.toList.take (Lib.indexByte h.toList 32).toNat)
     · rw [me.trans (if_pos ⟨hi, hx⟩)]
       refine Ev.congr (fun k => if_neg (by omega)) ?_
       have e1 : (s.extract (z + 1) s.size).extract 0 32 = s.extract (z + 1) (z + 33) := by
        apply ba_ext
        rw [toList_extract, toList_from, toList_extract, List.drop_zero]
        congr 1
        omega
       rw [extract_extract, e1]
       exact Ev.now _
     · rw [me.trans (if_neg (fun e => hx e.2))]
       exact Ev.congr (fun k => if_pos (by omega)) (Ev.now _)
    · rw [if_neg hi]
      simp only [Option.bind_some]
      refine Ev.bind (index_modes h) ?_
      rw [me.trans (if_neg (fun e => hi e.1))]
      exact Ev.congr (fun k => if_neg (by simp)) (Ev.now _)
 · rw [if_neg hz, if_pos (.inl (by omega))]
   simp only [Option.bind_some]
   refine Ev.step (f := fun _ => some _) (fun k => ?_) (Ev.now _)
   rw [if_neg (by simp)]
   simp only [tree_entry.j0]
   rfl
end Go.Proofs.YtnapcfpecpgdbaaDoor.Pl.T6

namespace Go.Proofs.YtnapcfpecpgdbaaDoor.Pl.T6
set_option linter.unusedVariables false
set_option linter.unusedSimpArgs false
open Go.RowKit Go.Proofs.YtnapcfpecpgdbaaDoor.M Go.Proofs.YtnapcfpecpgdbaaDoorW.PrintWords Go.Proofs.YtnapcfpecpgdbaaDoorW.PrintLast

theorem rindex (s : ByteArray) (hs : s.size ≤ 140737488351232) (c : UInt8) : Ev (fun k => r6_index.f k s (c.toNat : Int)) (Lib.indexByte s.toList c) := by
 have go : ∀ (m i : Nat), i + m = s.size → ∀ v, Lib.indexByte (s.toList.drop i) c = v → Ev (fun k => r6_index.l0 k s (c.toNat : Int) (i : Int)) (if v = -1 then -1 else v + i) := by
  intro m
  induction m with
  | zero =>
   intro i hi v hv
   rw [List.drop_of_length_le (by rw [toList_length]; omega)] at hv
   obtain rfl : -1 = v := hv
   refine Ev.step (f := fun _ => some (-1)) (fun k => ?_) (Ev.now _)
   simp only [r6_index.l0]
   rw [if_neg (by omega)]
  | succ m ih =>
   intro i hi v hv
   have hlt : i < s.size := by omega
   have hl : i < s.toList.length := by rw [toList_length]; exact hlt
   have ih' := ih (i + 1) (by omega)
   have w1 : wrap64 ((i : Int) + 1) = ((i + 1 : Nat) : Int) := (w64 (by omega) (by omega)).trans (by omega)
   rw [List.drop_eq_getElem_cons hl, index_cons] at hv
   have hb := bt_toList s i hlt
   by_cases he : s.toList[i] = c
   · rw [if_pos he] at hv
     subst hv
     refine Ev.step (f := fun _ => some ((i : Int))) (fun k => ?_) ?_
     · simp only [r6_index.l0]
       rw [if_pos (by omega), if_pos (by omega), if_pos (by rw [hb, he])]
     · rw [if_neg (by omega), Int.zero_add]
       exact Ev.now _
   ·
    rw [if_neg he] at hv
    refine Ev.step (f := fun k => r6_index.l0 k s (c.toNat : Int) ((i + 1 : Nat) : Int)) (fun k => ?_) ?_
    · simp only [r6_index.l0]
      rw [if_pos (by omega), if_pos (by omega), if_neg (by rw [hb]; exact fun e => he (UInt8.toNat_inj.mp (by omega))), w1]
    · have hge := Lib.indexByte_ge (s.toList.drop (i + 1)) c
      have ih'' := ih' _ rfl
      by_cases h1 : Lib.indexByte (s.toList.drop (i + 1)) c = -1
      · rw [if_pos h1] at hv ih''
        subst hv
        exact ih''
      · rw [if_neg h1] at hv ih''
        subst hv
        rw [if_neg (by omega)]
        have e : Lib.indexByte (s.toList.drop (i + 1)) c + 1 + (i : Int) = Lib.indexByte (s.toList.drop (i + 1)) c + ((i + 1 : Nat) : Int) := by omega
        rw [e]
        exact ih''
 have h0 := go s.size 0 (by omega) _ rfl
 rw [List.drop_zero] at h0
 generalize Lib.indexByte s.toList c = v at *
 have e : (if v = -1 then -1 else v + ((0 : Nat) : Int)) = v := by
  split
  · omega
  · omega
 rw [e] at h0
 exact h0

/-- An entry's bytes. -/
def line (x : S82) : List UInt8 := word x.f1 ++ 32 :: x.f0.toList ++ 0 :: x.f2.toList

theorem ent_ok {s : ByteArray} {x : S82} {r : ByteArray} (h : ent s = .ok x r) : s.toList = line x ++ r.toList ∧ x.f0.size ≤ s.size ∧ 1 ≤ x.f1 ∧ x.f1 ≤ 3 ∧ x.f2.size = 32 ∧ r.size < s.size := by
 unfold ent at h
 have hge := Lib.indexByte_ge s.toList 0
 split at h
 · cases h
 next hc =>
  obtain ⟨z, hz⟩ := Int.eq_ofNat_of_zero_le (show 0 ≤ Lib.indexByte s.toList 0 by omega)
  obtain ⟨h1, h2, h3⟩ := index_split hz
  rw [hz, Int.toNat_natCast] at h
  rw [hz] at hc
  cases hm : modeOf (s.extract 0 z) with
  | none =>
   rw [hm] at h
   cases h
  | some p =>
   obtain ⟨m, n⟩ := p
   rw [hm] at h
   injection h with hx hr
   subst hx
   subst hr
   have hsz : (s.extract 0 z).size = z := by
    rw [ByteArray.size_extract]
    omega
   have key : 1 ≤ m ∧ m ≤ 3 ∧ (s.extract 0 z).toList = word m ++ 32 :: n.toList ∧ n.size ≤ z := by
    unfold modeOf at hm
    have tk : ∀ (j : Nat) (w : List UInt8), (s.extract 0 z).toList.take j = w → (s.extract 0 z).toList = w ++ ((s.extract 0 z).extract j (s.extract 0 z).size).toList := by
     intro j w e
     rw [toList_from, ← e, List.take_append_drop]
    have sz : ∀ j : Nat, ((s.extract 0 z).extract j (s.extract 0 z).size).size ≤ z := by
     intro j
     rw [extract_size, hsz]
     omega
    split at hm
    next hp =>
     obtain ⟨rfl, rfl⟩ := Prod.mk.inj (Option.some.inj hm)
     refine ⟨by omega, by omega, ?_, sz 5⟩
     rw [tk 5 _ hp]
     simp
    split at hm
    next hp =>
     obtain ⟨rfl, rfl⟩ := Prod.mk.inj (Option.some.inj hm)
     refine ⟨by omega, by omega, ?_, sz 4⟩
     rw [tk 4 _ hp]
     simp
    split at hm
    next hp =>
     obtain ⟨rfl, rfl⟩ := Prod.mk.inj (Option.some.inj hm)
     refine ⟨by omega, by omega, ?_, sz 5⟩
     rw [tk 5 _ hp]
     simp
    · cases hm
   obtain ⟨k1, k2, k3, k4⟩ := key
   refine ⟨?_, by simp only; omega, k1, k2, ?_, ?_⟩
   · unfold line
     simp only
     rw [← k3, toList_extract, toList_extract, toList_from, List.drop_zero, Nat.sub_zero, show z + 33 - (z + 1) = 32 by omega]
     conv => lhs; rw [h1]
     rw [List.append_assoc, List.cons_append]
     congr 2
     rw [show z + 33 = (z + 1) + 32 by omega, ← List.drop_drop (i := 32) (j := z + 1), List.take_append_drop]
   · simp only
     rw [ByteArray.size_extract]
     omega
   · rw [extract_size]
     rw [toList_length] at h3
     omega

theorem mode_word {h : ByteArray} {m : Int} (hm : 1 ≤ m ∧ m ≤ 3) : (⟨(word m).toArray⟩ : ByteArray).size = (word m).length ∧ (⟨(word m).toArray⟩ ++ (⟨#[32]⟩ : ByteArray)).toList = word m ++ [32] := by
 constructor
 · rfl
 · rw [toList_append, toList_eq, toList_eq]

/-- One word looked for by the document. -/
theorem rword (s : ByteArray) (hs : s.size ≤ 140737488351232) (acc : List (S86)) (z : Nat) (hz : z < s.size) (m : Nat) (hm : 1 ≤ m ∧ m ≤ 3) (n : ByteArray) (o : Int) (d : ByteArray) (k : Nat) :
 r6_Get.l1 (k + 1) s acc z m n o d = if (s.extract 0 z).toList.take ((word m).length + 1) = word m ++ [32] then r6_Get.l1 k s acc z ((m + 1 : Nat) : Int) ((s.extract 0 z).extract ((word m).length + 1) (s.extract 0 z).size) m d else r6_Get.l1 k s acc z ((m + 1 : Nat) : Int) n o d := by
 have w1 : wrap64 ((m : Int) + 1) = ((m + 1 : Nat) : Int) := (w64 (by omega) (by omega)).trans (by omega)
 obtain ⟨e1, e2⟩ := mode_word (h := s) (m := (m : Int)) (by omega)
 have hw : (word (m : Int)).length ≤ 4 := by
  have : m = 1 ∨ m = 2 ∨ m = 3 := by omega
  rcases this with rfl | rfl | rfl <;> decide
 simp only [r6_Get.l1]
 rw [if_pos (by omega), refmode _ (by omega)]
 simp only [Option.bind_some]
 rw [e1, e2, w1, if_pos (by omega)]
 have hsz : (s.extract 0 z).size = z := by
  rw [ByteArray.size_extract]
  omega
 have tn : (((word (m : Int)).length : Int) + 1).toNat = (word (m : Int)).length + 1 := by omega
 have tk : (s.extract 0 z).toList.take ((word (m : Int)).length + 1) = (s.toList.take z).take ((word (m : Int)).length + 1) := by
  rw [toList_extract, List.drop_zero, Nat.sub_zero]
 rw [tk, tn, toList_extract, List.drop_zero, Nat.sub_zero, Int.toNat_natCast]
 have ee : s.extract ((word (m : Int)).length + 1) z = (s.extract 0 z).extract ((word (m : Int)).length + 1) (s.extract 0 z).size := by
  apply ba_ext
  rw [toList_from, toList_extract, toList_extract, List.drop_zero, Nat.sub_zero, List.drop_take]
 by_cases c : (z : Int) ≥ ((word (m : Int)).length : Int) + 1
 · rw [if_pos c, if_pos (by omega), if_pos (by omega), List.take_take, Nat.min_eq_left (by omega)]
   by_cases c2 : s.toList.take ((word (m : Int)).length + 1) = word (m : Int) ++ [32]
   · rw [if_pos c2, if_pos c2, if_pos (by omega), if_pos (by omega), ee]
   · rw [if_neg c2, if_neg c2]
 · rw [if_neg c, if_neg]
   intro hh
   have := congrArg List.length hh
   rw [List.length_take, List.length_take, toList_length, List.length_append] at this
   simp only [List.length_cons, List.length_nil] at this
   omega

/-- Behind the three words. -/
theorem rlast (s : ByteArray) (hs : s.size ≤ 140737488351232) (acc : List (S86)) (ha : acc.length ≤ 256) (z : Nat) (hz : z + 33 ≤ s.size) (v : (List (S86)) × Int) (n : ByteArray) (m : Int)
 (hm0 : m = 0 → v = ([], 60)) (hm1 : m ≠ 0 → if acc.length + 1 > 256 then v = ([], 3) else Ev (fun k => r6_Get.l0 k (s.extract (z + 33) s.size) (acc ++ [cv ⟨n, m, s.extract (z + 1) (z + 33)⟩])) v) :
 Ev (fun k => r6_Get.l1 k s acc z ((4 : Nat) : Int) n m (s.extract (z + 1) (z + 33))) v := by
 have w3 : wrap64 ((z : Int) + 33) = ((z + 33 : Nat) : Int) := (w64 (by omega) (by omega)).trans (by omega)
 by_cases c : m = 0
 · rw [hm0 c]
   refine Ev.step (f := fun _ => some ([], 60)) (fun k => ?_) (Ev.now _)
   simp only [r6_Get.l1]
   rw [if_neg (by omega), if_pos c]
 ·
  have h1 := hm1 c
  have e1 : ∀ k, r6_Get.l1 (k + 1) s acc z ((4 : Nat) : Int) n m (s.extract (z + 1) (z + 33)) = if acc.length + 1 > 256 then some ([], 3) else r6_Get.l0 k (s.extract (z + 33) s.size) (acc ++ [cv ⟨n, m, s.extract (z + 1) (z + 33)⟩]) := by
   intro k
   simp only [r6_Get.l1]
   rw [if_neg (by omega), if_neg c, if_pos (by omega)]
   rw [Option.bind_some, w3, if_pos (by omega), if_pos (by omega), Int.toNat_natCast, List.length_append]
   by_cases c2 : acc.length + 1 > 256
   · rw [if_pos c2, if_pos (by simp only [List.length_cons, List.length_nil]; omega)]
   · rw [if_neg c2, if_neg (by simp only [List.length_cons, List.length_nil]; omega)]
     unfold cv
     rfl
  refine Ev.step e1 ?_
  by_cases c2 : acc.length + 1 > 256
  · rw [if_pos c2] at h1
    rw [h1]
    exact Ev.congr (fun k => if_pos c2) (Ev.now _)
  · rw [if_neg c2] at h1
    exact Ev.congr (fun k => if_neg c2) h1

theorem ev_if {α : Type} {v : α} {f g : Nat → Option α} {c : Prop} [Decidable c] (h1 : c → Ev f v) (h2 : ¬ c → Ev g v) : Ev (fun k => if c then f k else g k) v := by
 by_cases hc : c
 · exact Ev.congr (fun k => if_pos hc) (h1 hc)
 · exact Ev.congr (fun k => if_neg hc) (h2 hc)

theorem words_apart (l : List UInt8) : (l.take 5 = word 1 ++ [32] → ¬ l.take 4 = word 2 ++ [32] ∧ ¬ l.take 5 = word 3 ++ [32]) ∧ (l.take 4 = word 2 ++ [32] → ¬ l.take 5 = word 3 ++ [32]) := by
 have hd : ∀ {j : Nat} {b : UInt8} {t : List UInt8}, l.take (j + 1) = b :: t → l.head? = some b := by
  intro j b t h
  cases l with
  | nil => simp at h
  | cons a l =>
   rw [List.take_succ_cons] at h
   injection h with h _
   rw [h]
   rfl
 refine ⟨fun h => ⟨fun h2 => ?_, fun h2 => ?_⟩, fun h h2 => ?_⟩
 all_goals
  have := (hd h).symm.trans (hd h2)
  revert this
  decide

/-- The three words, and what is behind them. -/
theorem rwords (s : ByteArray) (hs : s.size ≤ 140737488351232) (acc : List (S86)) (ha : acc.length ≤ 256) (z : Nat) (hz : z + 33 ≤ s.size) (v : (List (S86)) × Int)
 (hv : match modeOf (s.extract 0 z) with
  | none => v = ([], 60)
  | some (m, n) => if acc.length + 1 > 256 then v = ([], 3) else Ev (fun k => r6_Get.l0 k (s.extract (z + 33) s.size) (acc ++ [cv ⟨n, m, s.extract (z + 1) (z + 33)⟩])) v) :
 Ev (fun k => r6_Get.l1 k s acc z ((1 : Nat) : Int) (⟨#[]⟩ : ByteArray) 0 (s.extract (z + 1) (z + 33))) v := by
 have hlt : z < s.size := by omega
 have last := rlast s hs acc ha z hz v
 obtain ⟨a1, a2⟩ := words_apart (s.extract 0 z).toList
 have r1 := fun n o d k => rword s hs acc z hlt 1 (by omega) n o d k
 have r2 := fun n o d k => rword s hs acc z hlt 2 (by omega) n o d k
 have r3 := fun n o d k => rword s hs acc z hlt 3 (by omega) n o d k
 rw [show ((1 : Nat) : Int) = 1 by decide, show (word 1).length + 1 = 5 by decide] at r1
 rw [show ((2 : Nat) : Int) = 2 by decide, show (word 2).length + 1 = 4 by decide] at r2
 rw [show ((3 : Nat) : Int) = 3 by decide, show (word 3).length + 1 = 5 by decide] at r3
 rw [show ((1 + 1 : Nat) : Int) = 2 by decide] at r1
 rw [show ((2 + 1 : Nat) : Int) = 3 by decide] at r2
 rw [show ((3 + 1 : Nat) : Int) = ((4 : Nat) : Int) by decide] at r3
 rw [show ((1 : Nat) : Int) = 1 by decide]
 unfold modeOf at hv
 generalize s.extract 0 z = h at *
 refine Ev.step (r1 _ _ _) (ev_if (fun c1 => ?_) (fun c1 => ?_))
 · rw [if_pos c1] at hv
   refine Ev.step (r2 _ _ _) (ev_if (fun c2 => absurd c2 (a1 c1).1) (fun _ => ?_))
   refine Ev.step (r3 _ _ _) (ev_if (fun c2 => absurd c2 (a1 c1).2) (fun _ => ?_))
   exact last _ _ (fun h => by omega) (fun _ => hv)
 · rw [if_neg c1] at hv
   refine Ev.step (r2 _ _ _) (ev_if (fun c2 => ?_) (fun c2 => ?_))
   · rw [if_pos c2] at hv
     refine Ev.step (r3 _ _ _) (ev_if (fun c3 => absurd c3 (a2 c2)) (fun _ => ?_))
     exact last _ _ (fun h => by omega) (fun _ => hv)
   · rw [if_neg c2] at hv
     refine Ev.step (r3 _ _ _) (ev_if (fun c3 => ?_) (fun c3 => ?_))
     · rw [if_pos c3] at hv
       exact last _ _ (fun h => by omega) (fun _ => hv)
     · rw [if_neg c3] at hv
       exact last _ _ (fun _ => hv) (fun h => absurd rfl h)

/-- The document's reading, entry by entry. -/
theorem rstep (s : ByteArray) (hs : s.size ≤ 140737488351232) (h0 : 0 < s.size) (acc : List (S86)) (ha : acc.length ≤ 256) (v : (List (S86)) × Int)
 (hv : match ent s with
  | .bad e => v = ([], e)
  | .ok x r => if acc.length + 1 > 256 then v = ([], 3) else Ev (fun k => r6_Get.l0 k r (acc ++ [cv x])) v) :
 Ev (fun k => r6_Get.l0 k s acc) v := by
 have hge := Lib.indexByte_ge s.toList 0
 have ri : Ev (fun k => r6_index.f k s 0) (Lib.indexByte s.toList 0) := by
  have h := rindex s hs 0
  rw [show (((0 : UInt8).toNat : Nat) : Int) = 0 by decide] at h
  exact h
 refine Ev.step (f := fun k => (r6_index.f k s 0).bind fun t184 => (if t184 < 0 then (r6_Get.j1 k s acc t184 true) else (r6_Get.j1 k s acc t184 (decide ((wrap64 ((wrap64 ((s.size : Int) - t184)) - 1)) < 32))))) (fun k => ?_) (Ev.bind ri ?_)
 · simp only [r6_Get.l0]
   rw [if_pos (by omega)]
 unfold ent at hv
 have bad : ∀ t, v = ([], 4) → Ev (fun k => r6_Get.j1 k s acc t true) v := by
  intro t h
  rw [h]
  refine Ev.step (f := fun _ => some ([], 4)) (fun k => ?_) (Ev.now _)
  simp only [r6_Get.j1]
  rw [if_pos trivial]
 by_cases hz : 0 ≤ Lib.indexByte s.toList 0
 ·
  obtain ⟨z, hz'⟩ := Int.eq_ofNat_of_zero_le hz
  obtain ⟨_, _, hlt⟩ := index_split hz'
  rw [toList_length] at hlt
  rw [hz', Int.toNat_natCast] at hv
  rw [hz']
  have a1 : wrap64 ((s.size : Int) - (z : Int)) = (s.size : Int) - z := w64 (by omega) (by omega)
  have w1 : wrap64 ((wrap64 ((s.size : Int) - (z : Int))) - 1) = (s.size : Int) - z - 1 := by
   rw [a1]
   exact w64 (by omega) (by omega)
  refine Ev.congr (fun k => if_neg (by omega)) ?_
  rw [w1]
  by_cases hl : (s.size : Int) - z - 1 < 32
  · rw [if_pos (.inr hl)] at hv
    rw [decide_eq_true hl]
    exact bad _ hv
  · rw [if_neg (by omega)] at hv
    rw [decide_eq_false hl]
    have w2 : wrap64 ((z : Int) + 1) = ((z + 1 : Nat) : Int) := (w64 (by omega) (by omega)).trans (by omega)
    have w3 : wrap64 ((z : Int) + 33) = ((z + 33 : Nat) : Int) := (w64 (by omega) (by omega)).trans (by omega)
    refine Ev.step (f := fun k => r6_Get.l1 k s acc z ((1 : Nat) : Int) (⟨#[]⟩ : ByteArray) 0 (s.extract (z + 1) (z + 33))) (fun k => ?_) (rwords s hs acc ha z (by omega) v ?_)
    · simp only [r6_Get.j1]
      rw [if_neg (by simp), w2, w3, if_pos (by omega), if_pos (by omega), if_pos (by omega), Int.toNat_natCast, Int.toNat_natCast, show ((1 : Nat) : Int) = 1 by decide]
    · cases hm : modeOf (s.extract 0 z) with
      | none => rw [hm] at hv; exact hv
      | some p => rw [hm] at hv; exact hv
 · rw [if_pos (.inl (by omega))] at hv
   refine Ev.congr (fun k => if_pos (by omega)) (bad _ hv)
end Go.Proofs.YtnapcfpecpgdbaaDoor.Pl.T6

namespace Go.Proofs.YtnapcfpecpgdbaaDoor.Pl.T6
set_option linter.unusedVariables false
set_option linter.unusedSimpArgs false
open Go.RowKit Go.Proofs.YtnapcfpecpgdbaaDoor.M Go.Proofs.YtnapcfpecpgdbaaDoorW.PrintWords Go.Proofs.YtnapcfpecpgdbaaDoorW.PrintLast

/-- All entries' bytes. -/
def lines : List (S82) → List UInt8
 | [] => []
 | x :: l => line x ++ lines l

theorem lines_append (a b : List (S82)) : lines (a ++ b) = lines a ++ lines b := by
 induction a with
 | nil => rfl
 | cons x a ih =>
  simp only [List.cons_append, lines]
  rw [ih, List.append_assoc]

/-- The reading of both, round for round. -/
theorem reads : ∀ (n : Nat) (s : ByteArray) (acc : List (S82)), s.size ≤ n → s.size ≤ 1000000 → acc.length ≤ 256 → Small acc →
 ∃ l e, Ev (fun k => tree_Decode.l0 k s acc) (l, e) ∧ Ev (fun k => r6_Get.l0 k s (acc.map cv)) (l.map cv, e) ∧ l.length ≤ 256 ∧ (e ≠ 0 → l = []) ∧ (e = 0 → lines l = lines acc ++ s.toList ∧ ∀ x ∈ l, Good x) := by
 intro n
 induction n with
 | zero =>
  intro s acc hn hs ha hsm
  have h0 : s.toList = [] := size_zero.mpr (by omega)
  have tc := tcheck acc hsm
  have rc := rcheck acc hsm
  by_cases hc : chkAll acc = 0
  · refine ⟨acc, 0, ?_, ?_, ha, fun h => absurd rfl h, fun _ => ⟨by rw [h0, List.append_nil], ?_⟩⟩
    · refine Ev.step (f := fun k => (tree_Check.f k acc).bind fun t120 => (if t120 = 0 then (some (acc, 0)) else (some (([] : List (S82)), t120)))) (fun k => ?_) (Ev.bind tc ?_)
      · simp only [tree_Decode.l0]
        rw [if_pos h0]
      · exact Ev.congr (fun k => if_pos hc) (Ev.now _)
    · refine Ev.step (f := fun k => (r6_Check.f k (acc.map cv)).bind fun t120 => (if t120 = 0 then (some (acc.map cv, 0)) else (some (([] : List (S86)), t120)))) (fun k => ?_) (Ev.bind rc ?_)
      · simp only [r6_Get.l0]
        rw [if_neg (by omega)]
      · exact Ev.congr (fun k => if_pos hc) (Ev.now _)
    · unfold chkAll at hc
      rw [if_neg (by omega)] at hc
      exact chk_good acc none hc
  · refine ⟨[], chkAll acc, ?_, ?_, by simp, fun _ => rfl, fun h => absurd h hc⟩
    · refine Ev.step (f := fun k => (tree_Check.f k acc).bind fun t120 => (if t120 = 0 then (some (acc, 0)) else (some (([] : List (S82)), t120)))) (fun k => ?_) (Ev.bind tc ?_)
      · simp only [tree_Decode.l0]
        rw [if_pos h0]
      · exact Ev.congr (fun k => if_neg hc) (Ev.now _)
    · refine Ev.step (f := fun k => (r6_Check.f k (acc.map cv)).bind fun t120 => (if t120 = 0 then (some (acc.map cv, 0)) else (some (([] : List (S86)), t120)))) (fun k => ?_) (Ev.bind rc ?_)
      · simp only [r6_Get.l0]
        rw [if_neg (by omega)]
      · exact Ev.congr (fun k => if_neg hc) (Ev.now _)
 | succ n ih =>
  intro s acc hn hs ha hsm
  by_cases hz : s.size = 0
  · exact ih s acc (by omega) hs ha hsm
  have h0 : ¬ s.toList = [] := fun h => hz (size_zero.mp h)
  have te := tentry s (by omega)
  have rs := rstep s (by omega) (by omega) (acc.map cv) (by rw [List.length_map]; exact ha)
  have ts : ∀ v, (match ent s with
   | .bad e => v = ([], e)
   | .ok x r => if acc.length + 1 > 256 then v = ([], 3) else Ev (fun k => tree_Decode.l0 k r (acc ++ [x])) v) → Ev (fun k => tree_Decode.l0 k s acc) v := by
   intro v hv
   refine Ev.step (f := fun k => (tree_entry.f k s).bind fun bt121 => (if bt121.2.2.2.2 = 0 then (if acc.length < 3518437208883 then ((some (acc ++ [(⟨bt121.1, bt121.2.1, bt121.2.2.1⟩ : S82)] : List (S82))).bind fun y127 => (if (y127.length : Int) > 256 then (some (([] : List (S82)), 3)) else (tree_Decode.l0 k bt121.2.2.2.1 y127))) else (none)) else (some (([] : List (S82)), bt121.2.2.2.2)))) (fun k => ?_) (Ev.bind te ?_)
   · simp only [tree_Decode.l0]
     rw [if_neg h0]
   ·
    cases he : ent s with
    | bad e =>
     rw [he] at hv
     simp only at hv
     rw [hv]
     unfold entVal
     have hne : e ≠ 0 := by
      unfold ent at he
      split at he
      · injection he
        omega
      · split at he
        · injection he
          omega
        · cases he
     exact Ev.congr (fun k => if_neg hne) (Ev.now _)
    | ok x r =>
     rw [he] at hv
     simp only at hv
     unfold entVal
     refine Ev.congr (f := fun k => if acc.length + 1 > 256 then some ([], 3) else tree_Decode.l0 k r (acc ++ [x])) (fun k => ?_) ?_
     · rw [if_pos rfl, if_pos (by omega), Option.bind_some, List.length_append]
       by_cases c : acc.length + 1 > 256
       · rw [if_pos c, if_pos (by simp only [List.length_cons, List.length_nil]; omega)]
       · rw [if_neg c, if_neg (by simp only [List.length_cons, List.length_nil]; omega)]
     · by_cases c : acc.length + 1 > 256
       · rw [if_pos c] at hv
         rw [hv]
         exact Ev.congr (fun k => if_pos c) (Ev.now _)
       · rw [if_neg c] at hv
         exact Ev.congr (fun k => if_neg c) hv
  cases he : ent s with
  | bad e =>
   refine ⟨[], e, ts _ (by rw [he]), rs _ (by rw [he]; rfl), by simp, fun _ => rfl, fun h => ?_⟩
   exfalso
   unfold ent at he
   split at he
   · injection he
     omega
   · split at he
     · injection he
       omega
     · cases he
  | ok x r =>
   by_cases c : acc.length + 1 > 256
   · refine ⟨[], 3, ts _ ?_, rs _ ?_, by simp, fun _ => rfl, fun h => by omega⟩
     · rw [he]
       exact (if_pos c).mpr rfl
     · rw [he, List.length_map]
       exact (if_pos c).mpr rfl
   ·
    obtain ⟨k1, k2, k3, k4, k5, k6⟩ := ent_ok he
    obtain ⟨l, e, i1, i2, i4, i5, i3⟩ := ih r (acc ++ [x]) (by omega) (by omega) (by rw [List.length_append]; simp only [List.length_cons, List.length_nil]; omega) (by
     intro y hy
     rcases List.mem_append.mp hy with hy | hy
     · exact hsm y hy
     · rw [List.mem_singleton.mp hy]
       omega)
    refine ⟨l, e, ts _ ?_, rs _ ?_, i4, i5, fun h => ?_⟩
    · rw [he]
      exact (if_neg c).mpr i1
    · rw [he, List.length_map]
      rw [List.map_append] at i2
      exact (if_neg c).mpr i2
    · obtain ⟨j1, j3⟩ := i3 h
      refine ⟨?_, j3⟩
      rw [j1, lines_append, k1, List.append_assoc]
      congr 1
      simp only [lines]
      rw [List.append_nil]

end Go.Proofs.YtnapcfpecpgdbaaDoor.Pl.T6
namespace Go.Proofs.YtnapcfpecpgdbaaDoor.Pl
set_option linter.unusedVariables false
set_option linter.unusedSimpArgs false
open Go.RowKit Go.Proofs.YtnapcfpecpgdbaaDoor.M Go.Proofs.YtnapcfpecpgdbaaDoorW.PrintWords Go.Proofs.YtnapcfpecpgdbaaDoorW.PrintLast

theorem kind_ref (m : Int) (h : 1 ≤ m ∧ m ≤ 4) : r7_kind.f m = some (mk (kword m)) := by
 have : m = 1 ∨ m = 2 ∨ m = 3 ∨ m = 4 := by omega
 rcases this with rfl | rfl | rfl | rfl <;> rfl
end Go.Proofs.YtnapcfpecpgdbaaDoor.Pl

namespace Go.Proofs.YtnapcfpecpgdbaaDoor.Pl
set_option linter.unusedVariables false
set_option linter.unusedSimpArgs false
open Go.RowKit Go.Proofs.YtnapcfpecpgdbaaDoor.M Go.Proofs.YtnapcfpecpgdbaaDoorW.PrintWords Go.Proofs.YtnapcfpecpgdbaaDoorW.PrintLast

def tagsOf (nm : ByteArray) : ByteArray := (⟨#[116, 97, 103, 115, 47]⟩ : ByteArray) ++ nm
theorem tagsOf_size (nm : ByteArray) : (tagsOf nm).size = 5 + nm.size := by
 unfold tagsOf
 rw [ByteArray.size_append]
 rfl
/-- May a tag be? -/
def chkV (tg : ByteArray) (m : Int) (nm tx : ByteArray) : Int := if m < 1 ∨ 4 < m then 70 else if tg.size = 32 ∧ 0 < refK (tagsOf nm) ∧ textV tx = true then 0 else 6
theorem refK_range (s : ByteArray) : 0 ≤ refK s := by
 unfold refK
 repeat' split
 all_goals decide
theorem check_prog (tg : ByteArray) (m : Int) (nm tx : ByteArray) (hn : nm.size ≤ 70368744177664) (ht : tx.size ≤ 70368744177664) : Ev (fun k => ob_CheckTag.f k tg m nm tx) (chkV tg m nm tx) := by
 have j : ∀ odd : Bool, Ev (fun k => ob_CheckTag.j0 k odd tg m nm tx) (if odd = true then 70 else if tg.size = 32 ∧ 0 < refK (tagsOf nm) ∧ textV tx = true then 0 else 6) := by
  intro odd
  refine Ev.step (fun k => by rw [ob_CheckTag.j0]) ?_
  by_cases ho : odd = true
  · simp only [if_pos ho]
    exact Ev.now _
  ·
   simp only [if_neg ho]
   by_cases h1 : tg.size = 32
   · simp only [if_pos (show (tg.size : Int) = 32 by omega), if_pos (show 5 + nm.size ≤ 9223372036854775807 by omega)]
     rw [show (⟨#[116, 97, 103, 115, 47]⟩ : ByteArray) ++ nm = tagsOf nm from rfl, ref_prog, Option.bind_some, text_prog tx ht, Option.bind_some]
     by_cases h2 : 0 < refK (tagsOf nm)
     · by_cases h3 : textV tx = true
       · simp only [decide_eq_true h2, if_true, h3, if_pos (show tg.size = 32 ∧ 0 < refK (tagsOf nm) ∧ True from ⟨h1, h2, trivial⟩)]
         exact Ev.now _
       · simp only [decide_eq_true h2, if_true, if_neg h3, if_neg (show ¬ (tg.size = 32 ∧ 0 < refK (tagsOf nm) ∧ textV tx = true) from fun h => h3 h.2.2)]
         exact Ev.now _
     · simp only [decide_eq_false h2, if_neg (show ¬ (false = true) by decide), if_neg (show ¬ (tg.size = 32 ∧ 0 < refK (tagsOf nm) ∧ textV tx = true) from fun h => h2 h.2.1)]
       exact Ev.now _
   · simp only [if_neg (show ¬ (tg.size : Int) = 32 by omega), if_neg (show ¬ (tg.size = 32 ∧ 0 < refK (tagsOf nm) ∧ textV tx = true) from fun h => h1 h.1)]
     exact Ev.now _
 unfold ob_CheckTag.f chkV
 by_cases h1 : m < 1
 · simp only [if_pos h1, if_pos (show m < 1 ∨ 4 < m from .inl h1)]
   exact j true
 · simp only [if_neg h1]
   by_cases h4 : m > 4
   · simp only [if_pos (show m < 1 ∨ 4 < m from .inr h4), decide_eq_true h4]
     exact j true
   · simp only [if_neg (show ¬ (m < 1 ∨ 4 < m) by omega), decide_eq_false h4]
     exact j false
theorem check_ref (tg : ByteArray) (m : Int) (nm tx : ByteArray) (hn : nm.size ≤ 70368744177664) (ht : tx.size ≤ 70368744177664) : Ev (fun k => r7_CheckTag.f k tg m nm tx) (chkV tg m nm tx) := by
 have hz := tagsOf_size nm
 have j : ∀ odd : Bool, Ev (fun k => r7_CheckTag.j0 k odd tg m nm tx) (if odd = true then 70 else if tg.size = 32 ∧ 0 < refK (tagsOf nm) ∧ textV tx = true then 0 else 6) := by
  intro odd
  refine Ev.step (fun k => by rw [r7_CheckTag.j0]) ?_
  by_cases ho : odd = true
  · simp only [if_pos ho]
    exact Ev.now _
  ·
   simp only [if_neg ho]
   by_cases h1 : tg.size = 32
   · simp only [if_pos (show (tg.size : Int) = 32 by omega), if_pos (show 5 + nm.size ≤ 9223372036854775807 by omega)]
     refine Ev.bind (ref_doc (tagsOf nm) (by omega)) ?_
     have hr := refK_range (tagsOf nm)
     by_cases h2 : 0 < refK (tagsOf nm)
     · simp only [if_neg (show ¬ refK (tagsOf nm) = 0 by omega)]
       refine Ev.bind (text_ref tx ht) ?_
       by_cases h3 : textV tx = true
       · simp only [h3, if_true, if_pos (show tg.size = 32 ∧ 0 < refK (tagsOf nm) ∧ True from ⟨h1, h2, trivial⟩)]
         exact Ev.now _
       · simp only [if_neg h3, if_neg (show ¬ (tg.size = 32 ∧ 0 < refK (tagsOf nm) ∧ textV tx = true) from fun h => h3 h.2.2)]
         exact Ev.now _
     · simp only [if_pos (show refK (tagsOf nm) = 0 by omega), if_neg (show ¬ (tg.size = 32 ∧ 0 < refK (tagsOf nm) ∧ textV tx = true) from fun h => h2 h.2.1)]
       exact Ev.now _
   · simp only [if_neg (show ¬ (tg.size : Int) = 32 by omega), if_neg (show ¬ (tg.size = 32 ∧ 0 < refK (tagsOf nm) ∧ textV tx = true) from fun h => h1 h.1)]
     exact Ev.now _
 unfold r7_CheckTag.f chkV
 by_cases h1 : m < 1
 · simp only [if_pos h1, if_pos (show m < 1 ∨ 4 < m from .inl h1)]
   exact j true
 · simp only [if_neg h1]
   by_cases h4 : m > 4
   · simp only [if_pos (show m < 1 ∨ 4 < m from .inr h4), decide_eq_true h4]
     exact j true
   · simp only [if_neg (show ¬ (m < 1 ∨ 4 < m) by omega), decide_eq_false h4]
     exact j false

def wObj : List UInt8 := [111, 98, 106, 101, 99, 116]
def wKind : List UInt8 := [107, 105, 110, 100]
def wName : List UInt8 := [110, 97, 109, 101]
/-- A tag's parts. -/
def tagL (l : List UInt8) : Option (List UInt8 × Int × List UInt8 × List UInt8) :=
 (lineL l wObj).bind fun x => (lineL x.2 wKind).bind fun y => (lineL y.2 wName).bind fun z => (blankL z.2).bind fun t =>
  if (idV x.1).2 = true ∧ 1 ≤ kidx y.1 then some ((idV x.1).1.toList, kidx y.1, z.1, t) else none
def tagV (s : ByteArray) : ByteArray × Int × ByteArray × ByteArray × Int := match tagL s.toList with
 | none => (⟨#[]⟩, 0, ⟨#[]⟩, ⟨#[]⟩, 6)
 | some (i, m, c, t) => if chkV (mk i) m (mk c) (mk t) = 0 then (mk i, m, mk c, mk t, 0) else (⟨#[]⟩, 0, ⟨#[]⟩, ⟨#[]⟩, chkV (mk i) m (mk c) (mk t))
theorem get_prog (s : ByteArray) (hs : s.size ≤ 70368744177664) : Ev (fun k => ob_GetTag.f k s) (tagV s) := by
 have l1 : (⟨#[111, 98, 106, 101, 99, 116]⟩ : ByteArray).toList = wObj := toList_lit _
 have l2 : (⟨#[107, 105, 110, 100]⟩ : ByteArray).toList = wKind := toList_lit _
 have l3 : (⟨#[110, 97, 109, 101]⟩ : ByteArray).toList = wName := toList_lit _
 obtain ⟨p1, r1, h1, a1, b1, c1⟩ := prog_line s ⟨#[111, 98, 106, 101, 99, 116]⟩ hs (by decide)
 obtain ⟨p2, r2, h2, a2, b2, c2⟩ := prog_line r1 ⟨#[107, 105, 110, 100]⟩ (by omega) (by decide)
 obtain ⟨p3, r3, h3, a3, b3, c3⟩ := prog_line r2 ⟨#[110, 97, 109, 101]⟩ (by omega) (by decide)
 obtain ⟨p4, h4, a4, c4⟩ := cut_blank r3 (by omega)
 rw [l1] at h1 c1
 rw [l2] at h2 c2
 rw [l3] at h3 c3
 have bad : ∀ a b c d, Ev (fun k => ob_GetTag.j0 k a b c d true) ((⟨#[]⟩ : ByteArray), (0 : Int), (⟨#[]⟩ : ByteArray), (⟨#[]⟩ : ByteArray), (6 : Int)) := fun a b c d =>
  Ev.step (f := fun _ => some (⟨#[]⟩, 0, ⟨#[]⟩, ⟨#[]⟩, 6)) (fun k => by rw [ob_GetTag.j0, if_pos rfl]) (Ev.now _)
 refine Ev.congr (f := fun k => ((ob_kinds.f).bind fun t => sIx.f k t p2).bind fun t187 => (if (lineL s.toList wObj).isSome = true then (if (lineL r1.toList wKind).isSome = true then (if (lineL r2.toList wName).isSome = true then (if (blankL r3.toList).isSome = true then (if (idV p1.toList).2 = true then (ob_GetTag.j0 k p3 p4 (idV p1.toList).1 t187 (decide (t187 < 1))) else (ob_GetTag.j0 k p3 p4 (idV p1.toList).1 t187 true)) else (ob_GetTag.j0 k p3 p4 (idV p1.toList).1 t187 true)) else (ob_GetTag.j0 k p3 p4 (idV p1.toList).1 t187 true)) else (ob_GetTag.j0 k p3 p4 (idV p1.toList).1 t187 true)) else (ob_GetTag.j0 k p3 p4 (idV p1.toList).1 t187 true))) (fun k => ?_) ?_
 · unfold ob_GetTag.f
   rw [h1, Option.bind_some, h2, Option.bind_some, h3, Option.bind_some, h4, Option.bind_some, id_prog p1 (by omega), Option.bind_some, Option.bind_assoc]
 ·
  refine Ev.bind (index_kinds p2) ?_
  unfold tagV tagL
  cases e1 : lineL s.toList wObj with
  | none => exact bad _ _ _ _
  | some x =>
   obtain ⟨rfl, rfl⟩ := c1 x.1 x.2 (by rw [e1])
   simp only [Option.isSome_some, if_true, Option.bind_some, toList_mk] at *
   cases e2 : lineL x.2 wKind with
   | none => exact bad _ _ _ _
   | some y =>
    obtain ⟨rfl, rfl⟩ := c2 y.1 y.2 (by rw [e2])
    simp only [Option.isSome_some, if_true, Option.bind_some, toList_mk] at *
    cases e3 : lineL y.2 wName with
    | none => exact bad _ _ _ _
    | some z =>
     obtain ⟨rfl, rfl⟩ := c3 z.1 z.2 (by rw [e3])
     simp only [Option.isSome_some, if_true, Option.bind_some, toList_mk] at *
     cases e4 : blankL z.2 with
     | none => exact bad _ _ _ _
     | some t =>
      obtain rfl := c4 t e4
      simp only [Option.isSome_some, if_true, Option.bind_some]
      by_cases h5 : (idV x.1).2 = true
      · simp only [if_pos h5]
        by_cases h6 : 1 ≤ kidx y.1
        · simp only [decide_eq_false (show ¬ kidx y.1 < 1 by omega), if_pos (show (idV x.1).2 = true ∧ 1 ≤ kidx y.1 from ⟨h5, h6⟩), mk_toList]
          refine Ev.step (f := fun k => (ob_CheckTag.f k (idV x.1).1 (kidx y.1) (mk z.1) (mk t)).bind fun t189 => (if t189 = 0 then (some ((idV x.1).1, kidx y.1, mk z.1, mk t, 0)) else (some ((⟨#[]⟩ : ByteArray), 0, (⟨#[]⟩ : ByteArray), (⟨#[]⟩ : ByteArray), t189)))) (fun k => by rw [ob_GetTag.j0, if_neg (by decide)]) ?_
          refine Ev.bind (check_prog _ _ _ _ (by omega) (by omega)) ?_
          by_cases h7 : chkV (idV x.1).1 (kidx y.1) (mk z.1) (mk t) = 0
          · simp only [if_pos h7]
            exact Ev.now _
          · simp only [if_neg h7]
            exact Ev.now _
        · simp only [decide_eq_true (show kidx y.1 < 1 by omega), if_neg (show ¬ ((idV x.1).2 = true ∧ 1 ≤ kidx y.1) from fun h => h6 h.2)]
          exact bad _ _ _ _
      · simp only [if_neg h5, if_neg (show ¬ ((idV x.1).2 = true ∧ 1 ≤ kidx y.1) from fun h => h5 h.1)]
        exact bad _ _ _ _
end Go.Proofs.YtnapcfpecpgdbaaDoor.Pl

namespace Go.Proofs.YtnapcfpecpgdbaaDoor.Pl
set_option linter.unusedVariables false
set_option linter.unusedSimpArgs false
open Go.RowKit Go.Proofs.YtnapcfpecpgdbaaDoor.M Go.Proofs.YtnapcfpecpgdbaaDoorW.PrintWords Go.Proofs.YtnapcfpecpgdbaaDoorW.PrintLast

def kfin (w : List UInt8) : Int := if w = kword 4 then 4 else if w = kword 3 then 3 else if w = kword 2 then 2 else if w = kword 1 then 1 else 0
theorem kfin_kidx (w : List UInt8) : kfin w = if 1 ≤ kidx w then kidx w else 0 := by
 have d : ∀ i j : Fin 5, kword (i.1 : Int) = kword (j.1 : Int) → i = j := by decide
 have w0 : kword 0 = [] := by decide
 unfold kfin kidx
 have n1 : kword 1 ≠ [] := by decide
 have n2 : kword 2 ≠ [] := by decide
 have n3 : kword 3 ≠ [] := by decide
 have n4 : kword 4 ≠ [] := by decide
 have n12 : kword 1 ≠ kword 2 := by decide
 have n13 : kword 1 ≠ kword 3 := by decide
 have n14 : kword 1 ≠ kword 4 := by decide
 have n23 : kword 2 ≠ kword 3 := by decide
 have n24 : kword 2 ≠ kword 4 := by decide
 have n34 : kword 3 ≠ kword 4 := by decide
 by_cases h4 : w = kword 4
 · subst h4
   simp [n4, n14.symm, n24.symm, n34.symm]
 · by_cases h3 : w = kword 3
   · subst h3
     simp [n3, n13.symm, n23.symm, n34]
   · by_cases h2 : w = kword 2
     · subst h2
       simp [n2, n12.symm, n24, n23]
     · by_cases h1 : w = kword 1
       · subst h1
         simp [n1, n12, n13, n14]
       · by_cases h0 : w = []
         · subst h0
           simp [n1.symm, n2.symm, n3.symm, n4.symm]
         · simp [h0, h1, h2, h3, h4]
theorem get_ref (s : ByteArray) (hs : s.size ≤ 70368744177664) : Ev (fun k => r7_GetTag.f k s) (tagV s) := by
 have l1 : (⟨#[111, 98, 106, 101, 99, 116]⟩ : ByteArray).toList = wObj := toList_lit _
 have l2 : (⟨#[107, 105, 110, 100]⟩ : ByteArray).toList = wKind := toList_lit _
 have l3 : (⟨#[110, 97, 109, 101]⟩ : ByteArray).toList = wName := toList_lit _
 obtain ⟨p1, r1, h1, a1, b1, c1⟩ := ref_line s ⟨#[111, 98, 106, 101, 99, 116]⟩ hs (by decide)
 obtain ⟨p2, r2, h2, a2, b2, c2⟩ := ref_line r1 ⟨#[107, 105, 110, 100]⟩ (by omega) (by decide)
 obtain ⟨p3, r3, h3, a3, b3, c3⟩ := ref_line r2 ⟨#[110, 97, 109, 101]⟩ (by omega) (by decide)
 rw [l1] at h1 c1
 rw [l2] at h2 c2
 rw [l3] at h3 c3
 have bad : ∀ a b c d e, Ev (fun k => r7_GetTag.j1 k a true b c d e) ((⟨#[]⟩ : ByteArray), (0 : Int), (⟨#[]⟩ : ByteArray), (⟨#[]⟩ : ByteArray), (6 : Int)) := fun a b c d e =>
  Ev.step (f := fun _ => some (⟨#[]⟩, 0, ⟨#[]⟩, ⟨#[]⟩, 6)) (fun k => by rw [r7_GetTag.j1, if_pos rfl]) (Ev.now _)
 unfold r7_GetTag.f
 refine Ev.bind h1 (Ev.bind h2 (Ev.bind h3 ?_))
 simp only
 have step : ∀ (i : Int) (kd : Int), 1 ≤ i → i ≤ 4 → ∀ k, r7_GetTag.l0 (k + 1) p1 r3 (lineL s.toList wObj).isSome p2 (lineL r1.toList wKind).isSome (lineL r2.toList wName).isSome i ⟨#[]⟩ kd p3 ⟨#[]⟩ = r7_GetTag.l0 k p1 r3 (lineL s.toList wObj).isSome p2 (lineL r1.toList wKind).isSome (lineL r2.toList wName).isSome (i + 1) ⟨#[]⟩ (if p2.toList = kword i then i else kd) p3 ⟨#[]⟩ := by
  intro i kd hi1 hi2 k
  rw [r7_GetTag.l0, if_pos (by omega), kind_ref i ⟨hi1, hi2⟩, Option.bind_some, toList_mk, w64 (by omega) (by omega)]
  by_cases h : p2.toList = kword i
  · rw [if_pos h.symm, if_pos h]
  · rw [if_neg (fun hh => h hh.symm), if_neg h]
 refine Ev.step (step 1 0 (by omega) (by omega)) (Ev.step (step (1 + 1) _ (by omega) (by omega)) (Ev.step (step (1 + 1 + 1) _ (by omega) (by omega)) (Ev.step (step (1 + 1 + 1 + 1) _ (by omega) (by omega)) ?_)))
 have hk : (if p2.toList = kword (1 + 1 + 1 + 1) then (1 + 1 + 1 + 1 : Int) else if p2.toList = kword (1 + 1 + 1) then (1 + 1 + 1) else if p2.toList = kword (1 + 1) then (1 + 1) else if p2.toList = kword 1 then 1 else 0) = kfin p2.toList := rfl
 rw [hk, kfin_kidx]
 generalize hK : (if 1 ≤ kidx p2.toList then kidx p2.toList else 0) = K
 have hK0 : K = 0 ↔ ¬ 1 ≤ kidx p2.toList := by
  rw [← hK]
  split
  · omega
  · simp; omega
 refine Ev.step (f := fun k => ((r7_id.f k p1).bind fun bt221 => (if (lineL s.toList wObj).isSome = true then (if (lineL r1.toList wKind).isSome = true then (if (lineL r2.toList wName).isSome = true then (if (r3.size : Int) = 0 then (r7_GetTag.j1 k r3 true bt221.1 K p3 ⟨#[]⟩) else (if 0 < (r3.size : Int) then (if (bt r3 0) = 10 then (if K = 0 then (r7_GetTag.j1 k r3 true bt221.1 K p3 ⟨#[]⟩) else (r7_GetTag.j1 k r3 ((bt221.1.size : Int) != 32) bt221.1 K p3 ⟨#[]⟩)) else (r7_GetTag.j1 k r3 true bt221.1 K p3 ⟨#[]⟩)) else (none))) else (r7_GetTag.j1 k r3 true bt221.1 K p3 ⟨#[]⟩)) else (r7_GetTag.j1 k r3 true bt221.1 K p3 ⟨#[]⟩)) else (r7_GetTag.j1 k r3 true bt221.1 K p3 ⟨#[]⟩)))) (fun k => ?_) ?_
 · rw [r7_GetTag.l0, if_neg (by omega)]
 refine Ev.bind (id_ref p1 (by omega)) ?_
 unfold tagV tagL
 cases e1 : lineL s.toList wObj with
 | none => exact bad _ _ _ _ _
 | some x =>
  obtain ⟨rfl, rfl⟩ := c1 x.1 x.2 (by rw [e1])
  simp only [Option.isSome_some, if_true, Option.bind_some, toList_mk] at *
  cases e2 : lineL x.2 wKind with
  | none => exact bad _ _ _ _ _
  | some y =>
   obtain ⟨rfl, rfl⟩ := c2 y.1 y.2 (by rw [e2])
   simp only [Option.isSome_some, if_true, Option.bind_some, toList_mk] at *
   cases e3 : lineL y.2 wName with
   | none => exact bad _ _ _ _ _
   | some z =>
    obtain ⟨rfl, rfl⟩ := c3 z.1 z.2 (by rw [e3])
    simp only [Option.isSome_some, if_true, Option.bind_some, toList_mk] at *
    cases e4 : z.2 with
    | nil =>
     simp only [mk_size, List.length_nil]
     exact bad _ _ _ _ _
    | cons c t =>
     have hh := bt_head (mk (c :: t)) c t (toList_mk _)
     have hz : (mk (c :: t)).size = t.length + 1 := by rw [mk_size]; rfl
     simp only [hz, if_neg (show ¬ (((t.length + 1 : Nat) : Int) = 0) by omega), if_pos (show (0 : Int) < ((t.length + 1 : Nat) : Int) by omega), hh, blankL]
     by_cases h10 : c = 10
     ·
      subst h10
      simp only [if_pos (show (((10 : UInt8).toNat : Nat) : Int) = 10 from rfl), if_true, Option.bind_some]
      by_cases h6 : 1 ≤ kidx y.1
      ·
       have hKn : ¬ K = 0 := fun h => (hK0.mp h) h6
       simp only [if_neg hKn]
       rw [if_pos h6] at hK
       subst hK
       by_cases h5 : (idV x.1).2 = true
       ·
        have hsz : (idV x.1).1.size = 32 := by
         unfold idV at h5 ⊢
         cases hu : unhexL x.1 with
         | none =>
          rw [hu] at h5
          cases h5
         | some r =>
          rw [hu] at h5
          simp only [decide_eq_true_eq] at h5
          show (mk r).size = 32
          rw [mk_size, h5]
        have hne : (((idV x.1).1.size : Int) != 32) = false := by rw [hsz]; rfl
        simp only [hne, if_pos (show (idV x.1).2 = true ∧ 1 ≤ kidx y.1 from ⟨h5, h6⟩), mk_toList]
        have hex : (mk (10 :: t)).extract 1 (t.length + 1) = mk t := by
         apply ba_ext
         rw [toList_extract, toList_mk, toList_mk]
         simp
        refine Ev.step (f := fun k => (r7_CheckTag.f k (idV x.1).1 (kidx y.1) (mk z.1) (mk t)).bind fun t223 => (if t223 = 0 then (some ((idV x.1).1, kidx y.1, mk z.1, mk t, 0)) else (some ((⟨#[]⟩ : ByteArray), 0, (⟨#[]⟩ : ByteArray), (⟨#[]⟩ : ByteArray), t223)))) (fun k => by rw [r7_GetTag.j1, if_neg (by decide), hz, if_pos (by omega), hex]) ?_
        have hsz4 : (mk z.1).size ≤ s.size ∧ (mk t).size ≤ s.size := by
         have q1 : z.2.length = t.length + 1 := by rw [e4]; rfl
         simp only [mk_size] at *
         omega
        refine Ev.bind (check_ref _ _ _ _ (by omega) (by omega)) ?_
        by_cases h7 : chkV (idV x.1).1 (kidx y.1) (mk z.1) (mk t) = 0
        · simp only [if_pos h7]
          exact Ev.now _
        · simp only [if_neg h7]
          exact Ev.now _
       · have hne : (((idV x.1).1.size : Int) != 32) = true := by
          unfold idV at h5 ⊢
          cases hu : unhexL x.1 with
          | none => rfl
          | some r =>
           rw [hu] at h5
           simp only [decide_eq_true_eq] at h5
           show (((mk r).size : Int) != 32) = true
           rw [mk_size, bne_iff_ne]
           omega
         simp only [hne, if_neg (show ¬ ((idV x.1).2 = true ∧ 1 ≤ kidx y.1) from fun h => h5 h.1)]
         exact bad _ _ _ _ _
      · simp only [if_pos (hK0.mpr h6), if_neg (show ¬ ((idV x.1).2 = true ∧ 1 ≤ kidx y.1) from fun h => h6 h.2)]
        exact bad _ _ _ _ _
     · have hne : ¬ ((c.toNat : Int) = 10) := fun h => h10 (UInt8.toNat_inj.mp (by show c.toNat = 10; omega))
       simp only [if_neg hne, if_neg h10, Option.bind_none]
       exact bad _ _ _ _ _

/-- A tag's body. -/
def putL (i : List UInt8) (m : Int) (c t : List UInt8) : List UInt8 := wObj ++ 32 :: (hexL i ++ 10 :: (wKind ++ 32 :: (kword m ++ 10 :: (wName ++ 32 :: (c ++ 10 :: (10 :: t))))))
end Go.Proofs.YtnapcfpecpgdbaaDoor.Pl
namespace Go.Proofs.YtnapcfpecpgdbaaDoor.Pl
set_option linter.unusedVariables false
set_option linter.unusedSimpArgs false
open Go.RowKit Go.Proofs.YtnapcfpecpgdbaaDoor.M Go.Proofs.YtnapcfpecpgdbaaDoorW.PrintWords Go.Proofs.YtnapcfpecpgdbaaDoorW.PrintLast

theorem wsucc (n : Nat) (h : n < 1000000000) : wrap64 ((n : Int) + 1) = ((n + 1 : Nat) : Int) := (w64 (by omega) (by omega)).trans (by omega)
theorem open_ref (s : ByteArray) (hs : s.size ≤ 1000000) : Ev (fun k => r7_Open.f k s) (openV s) := by
 have i0 := index_ref s (by omega) 0
 rw [show (((0 : UInt8).toNat : Nat) : Int) = 0 by decide] at i0
 obtain ⟨bz1, bz2⟩ := index_bounds s.toList 0
 rw [toList_length] at bz1
 unfold r7_Open.f
 refine Ev.bind i0 ?_
 by_cases hz : Lib.indexByte s.toList 0 < 0
 · have e0 : cutV s 0 = (s, (⟨#[]⟩ : ByteArray), false) := by
    unfold cutV
    rw [if_neg (by omega)]
   have ev : openV s = (0, (⟨#[]⟩ : ByteArray), 6) := by
    unfold openV
    rw [e0]
    rfl
   rw [ev]
   exact Ev.congr (fun k => if_pos hz) (Ev.now _)
 obtain ⟨z, hz'⟩ := Int.eq_ofNat_of_zero_le (show 0 ≤ Lib.indexByte s.toList 0 by omega)
 rw [hz'] at bz1
 have e0 : cutV s 0 = (s.extract 0 z, s.extract (z + 1) s.size, true) := by
  unfold cutV
  rw [hz', if_pos (by omega)]
  rfl
 rw [hz']
 obtain ⟨h, hh⟩ : ∃ h, s.extract 0 z = h := ⟨_, rfl⟩
 obtain ⟨c, hc⟩ : ∃ c, s.extract (z + 1) s.size = c := ⟨_, rfl⟩
 have hsz : h.size = z := by
  rw [← hh, ByteArray.size_extract]
  omega
 have i1 := index_ref h (by omega) 32
 rw [show (((32 : UInt8).toNat : Nat) : Int) = 32 by decide] at i1
 obtain ⟨bb1, bb2⟩ := index_bounds h.toList 32
 rw [toList_length, hsz] at bb1
 refine Ev.congr (f := fun k => (r7_index.f k h 32).bind fun t313 => (if t313 < 0 then (some (0, (⟨#[]⟩ : ByteArray), 6)) else (r7_Open.l0 k s z t313 0 1))) (fun k => ?_) (Ev.bind i1 ?_)
 · rw [if_neg (by omega), if_pos (by omega), if_pos (by omega), Int.toNat_natCast, hh]
 rw [hh, hc] at e0
 by_cases hb : Lib.indexByte h.toList 32 < 0
 · have e1 : cutV h 32 = (h, (⟨#[]⟩ : ByteArray), false) := by
    unfold cutV
    rw [if_neg (by omega)]
   have ev : openV s = (0, (⟨#[]⟩ : ByteArray), 6) := by
    unfold openV
    rw [e0]
    simp only
    rw [e1]
    rfl
   rw [ev]
   exact Ev.congr (fun k => if_pos hb) (Ev.now _)
 obtain ⟨b, hb'⟩ := Int.eq_ofNat_of_zero_le (show 0 ≤ Lib.indexByte h.toList 32 by omega)
 rw [hb'] at bb1
 have e1 : cutV h 32 = (h.extract 0 b, h.extract (b + 1) h.size, true) := by
  unfold cutV
  rw [hb', if_pos (by omega)]
  rfl
 rw [hb']
 obtain ⟨w, hw⟩ : ∃ w, h.extract 0 b = w := ⟨_, rfl⟩
 obtain ⟨d, hd⟩ : ∃ d, h.extract (b + 1) h.size = d := ⟨_, rfl⟩
 have hw2 : s.extract 0 b = w := by
  apply ba_ext
  rw [← hw, ← hh]
  simp only [toList_extract, List.drop_zero, Nat.sub_zero, List.take_take]
  rw [Nat.min_eq_left (by omega)]
 have hd2 : s.extract (b + 1) z = d := by
  apply ba_ext
  rw [← hd, ← hh, toList_from, toList_extract, toList_extract, List.drop_zero, Nat.sub_zero, List.drop_take]
 have hdz : d.size ≤ s.size := by
  rw [← hd, extract_size]
  omega
 rw [hw, hd] at e1
 refine Ev.congr (f := fun k => r7_Open.l0 k s z b 0 1) (fun k => if_neg (by omega)) ?_
 have step : ∀ (i kd : Int), 1 ≤ i → i ≤ 4 → ∀ k, r7_Open.l0 (k + 1) s z b kd i = r7_Open.l0 k s z b (if w.toList = kword i then i else kd) (i + 1) := by
  intro i kd hi1 hi2 k
  rw [r7_Open.l0, if_pos (by omega), kind_ref i ⟨hi1, hi2⟩, Option.bind_some, toList_mk, w64 (by omega) (by omega), if_pos (by omega), if_pos (by omega), Int.toNat_natCast, hw2]
  by_cases h : w.toList = kword i
  · rw [if_pos h.symm, if_pos h]
  · rw [if_neg (fun hh => h hh.symm), if_neg h]
 refine Ev.step (step 1 0 (by omega) (by omega)) (Ev.step (step (1 + 1) _ (by omega) (by omega)) (Ev.step (step (1 + 1 + 1) _ (by omega) (by omega)) (Ev.step (step (1 + 1 + 1 + 1) _ (by omega) (by omega)) ?_)))
 have hk : (if w.toList = kword (1 + 1 + 1 + 1) then (1 + 1 + 1 + 1 : Int) else if w.toList = kword (1 + 1 + 1) then (1 + 1 + 1) else if w.toList = kword (1 + 1) then (1 + 1) else if w.toList = kword 1 then 1 else 0) = kfin w.toList := rfl
 rw [hk, kfin_kidx]
 have ev : openV s = if kidx w.toList < 1 then (0, (⟨#[]⟩ : ByteArray), 70) else if (undecV d.toList).2 = 0 then (if (undecV d.toList).1 > 262144 then (0, (⟨#[]⟩ : ByteArray), 3) else if (undecV d.toList).1 > (c.size : Int) then (0, (⟨#[]⟩ : ByteArray), 4) else if (undecV d.toList).1 < (c.size : Int) then (0, (⟨#[]⟩ : ByteArray), 5) else (kidx w.toList, c, 0)) else (0, (⟨#[]⟩ : ByteArray), (undecV d.toList).2) := by
  unfold openV
  rw [e0]
  simp only
  rw [e1]
  simp only [Bool.and_self, if_true]
 rw [ev]
 by_cases hk1 : kidx w.toList < 1
 · rw [if_neg (by omega), if_pos hk1]
   refine Ev.step (f := fun _ => some (0, (⟨#[]⟩ : ByteArray), 70)) (fun k => ?_) (Ev.now _)
   rw [r7_Open.l0, if_neg (by omega), if_pos rfl]
 rw [if_pos (by omega), if_neg hk1]
 refine Ev.step (f := fun k => (r2_Undec.f k d).bind fun bt => (if bt.2 = 0 then (if bt.1 > 262144 then (some (0, (⟨#[]⟩ : ByteArray), 3)) else (if (wrap64 (bt.1)) > (c.size : Int) then (some (0, (⟨#[]⟩ : ByteArray), 4)) else (if (wrap64 (bt.1)) < (c.size : Int) then (some (0, (⟨#[]⟩ : ByteArray), 5)) else (some (kidx w.toList, c, 0))))) else (some (0, (⟨#[]⟩ : ByteArray), bt.2)))) (fun k => ?_) (Ev.bind (undec_ref d (by omega)) ?_)
 ·
  have p1 : (0 : Int) ≤ ((b + 1 : Nat) : Int) := by omega
  have p2 : ((b + 1 : Nat) : Int) ≤ (z : Int) := by omega
  have p3 : (z : Int) ≤ (s.size : Int) := by omega
  have p4 : (0 : Int) ≤ ((z + 1 : Nat) : Int) := by omega
  have p5 : ((z + 1 : Nat) : Int) ≤ (s.size : Int) := by omega
  have n1 : ¬ ((1 : Int) + 1 + 1 + 1 + 1 < 5) := by omega
  have n2 : ¬ kidx w.toList = 0 := by omega
  have q6 : z < 1000000000 := by omega
  have q7 : b < 1000000000 := by omega
  have p6 := wsucc z q6
  have p7 := wsucc b q7
  rw [r7_Open.l0, if_neg n1, if_neg n2]
  simp only [p6, p7]
  rw [if_pos p1, if_pos p2, if_pos p3, Int.toNat_natCast, Int.toNat_natCast, Int.toNat_natCast, hd2, hc]
  congr 1
  funext bt
  rw [if_pos p4, if_pos p5]
 have := undecV_range d.toList
 generalize undecV d.toList = u at *
 by_cases h3 : u.2 = 0
 ·
  rw [if_pos h3]
  simp only [if_pos h3]
  by_cases h4 : u.1 > 262144
  · simp only [if_pos h4]
    exact Ev.now _
  · simp only [if_neg h4, w64 (x := u.1) (by omega) (by omega)]
    by_cases h5 : u.1 > (c.size : Int)
    · simp only [if_pos h5]
      exact Ev.now _
    · simp only [if_neg h5]
      by_cases h6 : u.1 < (c.size : Int)
      · simp only [if_pos h6]
        exact Ev.now _
      · simp only [if_neg h6]
        exact Ev.now _
 · simp only [if_neg h3]
   exact Ev.now _
end Go.Proofs.YtnapcfpecpgdbaaDoor.Pl
namespace Go.Proofs.YtnapcfpecpgdbaaDoor.Pl
set_option linter.unusedVariables false
set_option linter.unusedSimpArgs false
open Go.RowKit Go.Proofs.YtnapcfpecpgdbaaDoor.M Go.Proofs.YtnapcfpecpgdbaaDoorW.PrintWords Go.Proofs.YtnapcfpecpgdbaaDoorW.PrintLast

abbrev PL := S56
abbrev RL := S55
def cl (x : PL) : RL := ⟨x.f0, x.f1⟩
def par (p : ByteArray) : PL := ⟨3, p⟩
def kid (x : S82) : PL := if x.f1 = 3 then ⟨2, x.f2⟩ else ⟨1, x.f2⟩
theorem rd_par (ps : List ByteArray) (i : Nat) (p : ByteArray) (r : List ByteArray) (h : ps.drop i = p :: r) : rdOf ByteArray.empty ps (i : Int) = p ∧ i < ps.length ∧ ps.drop (i + 1) = r := by
 have hi : i < ps.length := by
  have := congrArg List.length h
  simp only [List.length_drop, List.length_cons] at this
  omega
 rw [List.drop_eq_getElem_cons hi] at h
 injection h with h1 h2
 refine ⟨?_, hi, h2⟩
 unfold rdOf
 rw [Int.toNat_natCast, List.getD_eq_getElem?_getD, List.getElem?_eq_getElem hi, Option.getD_some, h1]
theorem rd_kid (ps : List (S82)) (i : Nat) (p : S82) (r : List (S82)) (h : ps.drop i = p :: r) : rd_T82 ps (i : Int) = p ∧ i < ps.length ∧ ps.drop (i + 1) = r := by
 have hi : i < ps.length := by
  have := congrArg List.length h
  simp only [List.length_drop, List.length_cons] at this
  omega
 rw [List.drop_eq_getElem_cons hi] at h
 injection h with h1 h2
 exact ⟨(T6.rd_nat ps i hi).trans h1, hi, h2⟩
theorem par_prog (ps : List ByteArray) (hp : ps.length ≤ 100000) : ∀ (r : List ByteArray) (i : Nat) (acc : List PL), ps.drop i = r → acc.length + r.length ≤ 1000000 → Ev (fun k => ob_Links.l0 k acc ps (ps.length : Int) (i : Int)) (acc ++ r.map par, 0)
 | [], i, acc, h, _ => by
  have := List.drop_eq_nil_iff.mp h
  refine Ev.step (f := fun _ => some (acc, 0)) (fun k => ?_) ?_
  · simp only [ob_Links.l0]
    rw [if_neg (by omega)]
  · rw [List.map_nil, List.append_nil]
    exact Ev.now _
 | p :: r, i, acc, h, ha => by
  obtain ⟨h1, h2, h3⟩ := rd_par ps i p r h
  simp only [List.length_cons] at ha
  refine Ev.step (f := fun k => ob_Links.l0 k (acc ++ [par p]) ps (ps.length : Int) ((i + 1 : Nat) : Int)) (fun k => ?_) ?_
  · simp only [ob_Links.l0]
    rw [if_pos (by omega), if_pos (by omega), if_pos (by omega), if_pos (by omega), h1, w64 (by omega) (by omega)]
    rfl
  · have := par_prog ps hp r (i + 1) (acc ++ [par p]) h3 (by rw [List.length_append]; simp only [List.length_cons, List.length_nil]; omega)
    rw [List.append_assoc] at this
    exact this
theorem kid_prog (ps : List (S82)) (hp : ps.length ≤ 100000) : ∀ (r : List (S82)) (i : Nat) (acc : List PL), ps.drop i = r → acc.length + r.length ≤ 1000000 → Ev (fun k => ob_Links.l1 k acc ps (ps.length : Int) (i : Int)) (acc ++ r.map kid, 0)
 | [], i, acc, h, _ => by
  have := List.drop_eq_nil_iff.mp h
  refine Ev.step (f := fun _ => some (acc, 0)) (fun k => ?_) ?_
  · simp only [ob_Links.l1]
    rw [if_neg (by omega)]
  · rw [List.map_nil, List.append_nil]
    exact Ev.now _
 | p :: r, i, acc, h, ha => by
  obtain ⟨h1, h2, h3⟩ := rd_kid ps i p r h
  simp only [List.length_cons] at ha
  refine Ev.step (f := fun k => ob_Links.l1 k (acc ++ [kid p]) ps (ps.length : Int) ((i + 1 : Nat) : Int)) (fun k => ?_) ?_
  · simp only [ob_Links.l1]
    rw [if_pos (by omega), if_pos (by omega), if_pos (by omega), h1, w64 (by omega) (by omega)]
    unfold kid
    by_cases c : p.f1 = 3
    · rw [if_pos c, if_pos c, if_pos (by omega)]
      rfl
    · rw [if_neg c, if_neg c, if_pos (by omega)]
      rfl
  · have := kid_prog ps hp r (i + 1) (acc ++ [kid p]) h3 (by rw [List.length_append]; simp only [List.length_cons, List.length_nil]; omega)
    rw [List.append_assoc] at this
    exact this
theorem kid_ref (ps : List (S82)) (hp : ps.length ≤ 100000) (e : Int) : ∀ (r : List (S82)) (i : Nat) (acc : List RL), ps.drop i = r → acc.length + r.length ≤ 1000000 → Ev (fun k => r7_Links.l0 k acc (ps.map T6.cv) e (i : Int)) (acc ++ (r.map kid).map cl, e)
 | [], i, acc, h, _ => by
  have := List.drop_eq_nil_iff.mp h
  refine Ev.step (f := fun _ => some (acc, e)) (fun k => ?_) ?_
  · simp only [r7_Links.l0]
    rw [if_neg (by rw [List.length_map]; omega)]
  · rw [List.map_nil, List.map_nil, List.append_nil]
    exact Ev.now _
 | p :: r, i, acc, h, ha => by
  obtain ⟨h1, h2, h3⟩ := rd_kid ps i p r h
  simp only [List.length_cons] at ha
  refine Ev.step (f := fun k => r7_Links.l0 k (acc ++ [cl (kid p)]) (ps.map T6.cv) e ((i + 1 : Nat) : Int)) (fun k => ?_) ?_
  · simp only [r7_Links.l0]
    rw [if_pos (by rw [List.length_map]; omega), if_pos (by omega), T6.rd_cv, h1, w64 (by omega) (by omega)]
    unfold kid
    by_cases c : p.f1 = 3
    · rw [if_pos (show (T6.cv p).f1 = 3 from c), if_pos c, if_pos (by omega)]
      rfl
    · rw [if_neg (show ¬ (T6.cv p).f1 = 3 from c), if_neg c, if_pos (by omega)]
      rfl
  · have := kid_ref ps hp e r (i + 1) (acc ++ [cl (kid p)]) h3 (by rw [List.length_append]; simp only [List.length_cons, List.length_nil]; omega)
    rw [List.append_assoc] at this
    exact this
theorem par_ref (ps : List ByteArray) (hp : ps.length ≤ 100000) (T a : ByteArray) (n : Int) (t : ByteArray) : ∀ (r : List ByteArray) (i : Nat) (acc : List RL), ps.drop i = r → acc.length + r.length ≤ 1000000 → Ev (fun k => r7_Links.l1 k acc (i : Int) T ps a n t) (acc ++ (r.map par).map cl, 0)
 | [], i, acc, h, _ => by
  have := List.drop_eq_nil_iff.mp h
  refine Ev.step (f := fun _ => some (acc, 0)) (fun k => ?_) ?_
  · simp only [r7_Links.l1]
    rw [if_neg (by omega)]
  · rw [List.map_nil, List.map_nil, List.append_nil]
    exact Ev.now _
 | p :: r, i, acc, h, ha => by
  obtain ⟨h1, h2, h3⟩ := rd_par ps i p r h
  simp only [List.length_cons] at ha
  refine Ev.step (f := fun k => r7_Links.l1 k (acc ++ [cl (par p)]) ((i + 1 : Nat) : Int) T ps a n t) (fun k => ?_) ?_
  · simp only [r7_Links.l1]
    rw [if_pos (by omega), if_pos (by omega), if_pos (by omega), h1, w64 (by omega) (by omega)]
    rfl
  · have := par_ref ps hp T a n t r (i + 1) (acc ++ [cl (par p)]) h3 (by rw [List.length_append]; simp only [List.length_cons, List.length_nil]; omega)
    rw [List.append_assoc] at this
    exact this
theorem commitV_few (s : ByteArray) (h : (commitV s).2.2.2.2.2 = 0) : (commitV s).2.1.length ≤ 4 := by
 have nb : ∀ e : Int, e ≠ 0 → (badC e).2.2.2.2.2 = 0 → (badC e).2.1.length ≤ 4 := fun e he hh => absurd hh he
 have key : ∀ T acc p, (runC T acc p).2.2.2.2.2 = 0 → (runC T acc p).2.1.length ≤ 4 := by
  intro T acc p hh
  unfold runC at *
  split at hh
  · exact absurd hh (by decide)
  ·
   rename_i p
   unfold endC at *
   split at hh
   · exact absurd hh (by decide)
   · rename_i q hq
     unfold finC at *
     split at hh
     · rename_i h0
       rw [if_pos h0]
       unfold chkC at h0
       split at h0
       · exact absurd h0 (by decide)
       · simp only
         omega
     · rename_i h0
       exact absurd hh h0
 unfold commitV at *
 split at h
 · exact absurd h (by decide)
 · rename_i x hx
   split at h
   · rename_i h2
     rw [if_pos h2]
     exact key _ _ _ h
   · exact absurd h (by decide)
theorem kidx_le (w : List UInt8) : kidx w ≤ 4 := by
 unfold kidx
 repeat' split
 all_goals omega
theorem openV_kind (s : ByteArray) (h : (openV s).2.2 = 0) : 1 ≤ (openV s).1 ∧ (openV s).1 ≤ 4 ∧ (openV s).2.1.size ≤ s.size := by
 have h1 := kidx_le (cutV (cutV s 0).1 32).1.toList
 have h2 := (cutV_size s 0).2
 unfold openV at *
 repeat' split at h
 all_goals first
  | exact absurd h (by decide)
  | (rename_i hh; exact absurd h hh)
  | (simp only [*, if_true, if_false]; refine ⟨?_, ?_, ?_⟩ <;> first | trivial | omega | assumption)
theorem links_both (s : ByteArray) (hs : s.size ≤ 5000) : ∃ l e, Ev (fun k => ob_Links.f k s) (l, e) ∧ Ev (fun k => r7_Links.f k s) (l.map cl, e) ∧ l.length ≤ 1000000 := by
 have ho := open_prog s (by omega)
 have hr := open_ref s (by omega)
 have hk := openV_kind s
 generalize openV s = o at *
 obtain ⟨m, b, e⟩ := o
 simp only at hk
 by_cases he : e = 0
 ·
  obtain ⟨hm1, hm4, hb⟩ := hk he
  subst he
  have go : ∀ (l : List PL) (e : Int), Ev (fun k => ob_Links.j0 k m b 0 (m == 1)) (l, e) → Ev (fun k => if m = 2 then (r6_Get.f k b).bind fun bt453 => r7_Links.l0 k [] bt453.1 bt453.2 0 else if m = 3 then (r7_GetCommit.f k b).bind fun bt466 => (if bt466.2.2.2.2.2 = 0 then r7_Links.l1 k ([] ++ [(⟨2, bt466.1⟩ : RL)]) 0 bt466.1 bt466.2.1 bt466.2.2.1 bt466.2.2.2.1 bt466.2.2.2.2.1 else some ([], bt466.2.2.2.2.2)) else if m = 4 then (r7_GetTag.f k b).bind fun bt482 => (if bt482.2.2.2.2 = 0 then some ([] ++ [(⟨bt482.2.1, bt482.1⟩ : RL)], 0) else some ([], bt482.2.2.2.2)) else some ([], 0)) (l.map cl, e) → l.length ≤ 1000000 → ∃ l e, Ev (fun k => ob_Links.f k s) (l, e) ∧ Ev (fun k => r7_Links.f k s) (l.map cl, e) ∧ l.length ≤ 1000000 := by
   intro l e h1 h2 h3
   refine ⟨l, e, ?_, ?_, h3⟩
   · unfold ob_Links.f
     refine Ev.bind ho ?_
     exact Ev.congr (fun k => if_pos rfl) h1
   · unfold r7_Links.f
     refine Ev.bind hr ?_
     refine Ev.congr (fun k => ?_) h2
     simp only [Option.bind_some, if_true, show (([] : List RL).length < 5864062014805) = True from eq_true (by decide)]
  by_cases h4 : m = 4
  ·
   subst h4
   have gp := get_prog b (by omega)
   have gr := get_ref b (by omega)
   generalize tagV b = t at *
   by_cases ht : t.2.2.2.2 = 0
   · refine go [⟨t.2.1, t.1⟩] 0 ?_ ?_ (by simp)
     · refine Ev.step (f := fun k => (ob_GetTag.f k b).bind fun bt371 => (if bt371.2.2.2.2 = 0 then (some ((([(⟨bt371.2.1, bt371.1⟩ : PL)] : List PL)), 0)) else (some (([] : List PL), bt371.2.2.2.2)))) (fun k => ?_) (Ev.bind gp ?_)
       · rw [ob_Links.j0, if_neg (by decide), if_pos rfl]
       · exact Ev.congr (fun k => if_pos ht) (Ev.now _)
     · refine Ev.congr (f := fun k => (r7_GetTag.f k b).bind fun bt482 => (if bt482.2.2.2.2 = 0 then some ([] ++ [(⟨bt482.2.1, bt482.1⟩ : RL)], 0) else some ([], bt482.2.2.2.2))) (fun k => ?_) (Ev.bind gr (Ev.congr (fun k => if_pos ht) (Ev.now _)))
       rw [if_neg (by decide), if_neg (by decide), if_pos rfl]
   · refine go [] t.2.2.2.2 ?_ ?_ (by simp)
     · refine Ev.step (f := fun k => (ob_GetTag.f k b).bind fun bt371 => (if bt371.2.2.2.2 = 0 then (some ((([(⟨bt371.2.1, bt371.1⟩ : PL)] : List PL)), 0)) else (some (([] : List PL), bt371.2.2.2.2)))) (fun k => ?_) (Ev.bind gp ?_)
       · rw [ob_Links.j0, if_neg (by decide), if_pos rfl]
       · exact Ev.congr (fun k => if_neg ht) (Ev.now _)
     · refine Ev.congr (f := fun k => (r7_GetTag.f k b).bind fun bt482 => (if bt482.2.2.2.2 = 0 then some ([] ++ [(⟨bt482.2.1, bt482.1⟩ : RL)], 0) else some ([], bt482.2.2.2.2))) (fun k => ?_) (Ev.bind gr (Ev.congr (fun k => if_neg ht) (Ev.now _)))
       rw [if_neg (by decide), if_neg (by decide), if_pos rfl]
  by_cases h3 : m = 3
  ·
   subst h3
   have gp := getc_prog b (by omega)
   have gr := getc_ref b (by omega)
   have hf := commitV_few b
   generalize commitV b = t at *
   by_cases ht : t.2.2.2.2.2 = 0
   · have hl := hf ht
     refine go ([⟨2, t.1⟩] ++ t.2.1.map par) 0 ?_ ?_ (by simp only [List.length_append, List.length_cons, List.length_nil, List.length_map]; omega)
     · refine Ev.step (f := fun k => (ob_GetCommit.f k b).bind fun bt380 => (if bt380.2.2.2.2.2 = 0 then (ob_Links.l0 k (([(⟨2, bt380.1⟩ : PL)] : List PL)) bt380.2.1 (bt380.2.1.length : Int) 0) else (some (([] : List PL), bt380.2.2.2.2.2)))) (fun k => ?_) (Ev.bind gp ?_)
       · rw [ob_Links.j0, if_neg (by decide), if_neg (by decide), if_pos rfl]
       · exact Ev.congr (fun k => if_pos ht) (par_prog t.2.1 (by omega) t.2.1 0 [⟨2, t.1⟩] rfl (by simp only [List.length_cons, List.length_nil]; omega))
     · have hp := par_ref t.2.1 (by omega) t.1 t.2.2.1 t.2.2.2.1 t.2.2.2.2.1 t.2.1 0 ([] ++ [⟨2, t.1⟩]) rfl (by simp only [List.nil_append, List.length_cons, List.length_nil]; omega)
       refine Ev.congr (f := fun k => (r7_GetCommit.f k b).bind fun bt466 => (if bt466.2.2.2.2.2 = 0 then r7_Links.l1 k ([] ++ [(⟨2, bt466.1⟩ : RL)]) 0 bt466.1 bt466.2.1 bt466.2.2.1 bt466.2.2.2.1 bt466.2.2.2.2.1 else some ([], bt466.2.2.2.2.2))) (fun k => ?_) (Ev.bind gr (Ev.congr (fun k => if_pos ht) hp))
       rw [if_neg (by decide), if_pos rfl]
   · refine go [] t.2.2.2.2.2 ?_ ?_ (by simp)
     · refine Ev.step (f := fun k => (ob_GetCommit.f k b).bind fun bt380 => (if bt380.2.2.2.2.2 = 0 then (ob_Links.l0 k (([(⟨2, bt380.1⟩ : PL)] : List PL)) bt380.2.1 (bt380.2.1.length : Int) 0) else (some (([] : List PL), bt380.2.2.2.2.2)))) (fun k => ?_) (Ev.bind gp ?_)
       · rw [ob_Links.j0, if_neg (by decide), if_neg (by decide), if_pos rfl]
       · exact Ev.congr (fun k => if_neg ht) (Ev.now _)
     · refine Ev.congr (f := fun k => (r7_GetCommit.f k b).bind fun bt466 => (if bt466.2.2.2.2.2 = 0 then r7_Links.l1 k ([] ++ [(⟨2, bt466.1⟩ : RL)]) 0 bt466.1 bt466.2.1 bt466.2.2.1 bt466.2.2.2.1 bt466.2.2.2.2.1 else some ([], bt466.2.2.2.2.2))) (fun k => ?_) (Ev.bind gr (Ev.congr (fun k => if_neg ht) (Ev.now _)))
       rw [if_neg (by decide), if_pos rfl]
  by_cases h2 : m = 2
  ·
   subst h2
   obtain ⟨l, e, i1, i2, i4, i5, i3⟩ := T6.reads b.size b [] (Nat.le_refl _) (by omega) (by simp) (by intro x hx; cases hx)
   have kr := kid_ref l (by omega) e l 0 [] rfl (by simp only [List.length_nil]; omega)
   have kr2 : Ev (fun k => if (2 : Int) = 2 then (r6_Get.f k b).bind fun bt453 => r7_Links.l0 k [] bt453.1 bt453.2 0 else if (2 : Int) = 3 then (r7_GetCommit.f k b).bind fun bt466 => (if bt466.2.2.2.2.2 = 0 then r7_Links.l1 k ([] ++ [(⟨2, bt466.1⟩ : RL)]) 0 bt466.1 bt466.2.1 bt466.2.2.1 bt466.2.2.2.1 bt466.2.2.2.2.1 else some ([], bt466.2.2.2.2.2)) else if (2 : Int) = 4 then (r7_GetTag.f k b).bind fun bt482 => (if bt482.2.2.2.2 = 0 then some ([] ++ [(⟨bt482.2.1, bt482.1⟩ : RL)], 0) else some ([], bt482.2.2.2.2)) else some ([], 0)) ((l.map kid).map cl, e) := by
    have i2' : Ev (fun k => r6_Get.f k b) (l.map T6.cv, e) := i2
    refine Ev.congr (f := fun k => (r6_Get.f k b).bind fun bt453 => r7_Links.l0 k [] bt453.1 bt453.2 0) (fun k => ?_) (Ev.bind i2' kr)
    rw [if_pos rfl]
   by_cases ht : e = 0
   · subst ht
     refine go (l.map kid) 0 ?_ kr2 (by rw [List.length_map]; omega)
     have i1' : Ev (fun k => tree_Decode.f k b) (l, 0) := i1
     refine Ev.step (f := fun k => (tree_Decode.f k b).bind fun bt396 => (if bt396.2 = 0 then (ob_Links.l1 k ([] : List PL) bt396.1 (bt396.1.length : Int) 0) else (some (([] : List PL), bt396.2)))) (fun k => ?_) (Ev.bind i1' ?_)
     · rw [ob_Links.j0, if_neg (by decide), if_neg (by decide), if_neg (by decide)]
     · exact Ev.congr (fun k => if_pos rfl) (kid_prog l (by omega) l 0 [] rfl (by simp only [List.length_nil]; omega))
   · obtain rfl := i5 ht
     refine go [] e ?_ kr2 (by simp)
     have i1' : Ev (fun k => tree_Decode.f k b) ([], e) := i1
     refine Ev.step (f := fun k => (tree_Decode.f k b).bind fun bt396 => (if bt396.2 = 0 then (ob_Links.l1 k ([] : List PL) bt396.1 (bt396.1.length : Int) 0) else (some (([] : List PL), bt396.2)))) (fun k => ?_) (Ev.bind i1' ?_)
     · rw [ob_Links.j0, if_neg (by decide), if_neg (by decide), if_neg (by decide)]
     · exact Ev.congr (fun k => if_neg ht) (Ev.now _)
  · obtain rfl : m = 1 := by omega
    refine go [] 0 ?_ ?_ (by simp)
    · refine Ev.step (f := fun _ => some ([], 0)) (fun k => ?_) (Ev.now _)
      rw [ob_Links.j0, if_pos (by decide)]
    · refine Ev.congr (fun k => ?_) (Ev.now _)
      rw [if_neg (by decide), if_neg (by decide), if_neg (by decide)]
      rfl
 · refine ⟨[], e, ?_, ?_, by simp⟩
   · unfold ob_Links.f
     refine Ev.bind ho ?_
     refine Ev.congr (fun k => if_neg he) (Ev.step (f := fun _ => some ([], e)) (fun k => ?_) (Ev.now _))
     rw [ob_Links.j0, if_pos rfl]
   · unfold r7_Links.f
     refine Ev.bind hr ?_
     refine Ev.congr (fun k => ?_) (Ev.now _)
     simp only [Option.bind_some]
     rw [if_neg he]
     rfl
end Go.Proofs.YtnapcfpecpgdbaaDoor.Pl
namespace Go.Proofs.YtnapcfpecpgdbaaDoor.Pure
set_option linter.unusedVariables false
set_option linter.unusedSimpArgs false
open Go.RowKit Go.Proofs.YtnapcfpecpgdbaaDoor.M Go.Proofs.YtnapcfpecpgdbaaDoorW.PrintWords Go.Proofs.YtnapcfpecpgdbaaDoorW.PrintLast Go.Proofs.YtnapcfpecpgdbaaDoor.Pl

theorem rd_cl (l : List PL) (i : Int) : rd_T55 (l.map cl) i = cl (rd_T56 l i) := by
 unfold rd_T55 rd_T56
 rw [List.getD_eq_getElem?_getD, List.getD_eq_getElem?_getD, List.getElem?_map]
 cases l[i.toNat]? with
 | none => rfl
 | some x => rfl
theorem opens_l0 (l : List PL) (hl : l.length ≤ 1000000) : ∀ (m i : Nat), i + m = l.length → Ev (fun k => l7_ObjectOpens.l0 k l (l.map cl) (i : Int)) true := by
 intro m
 induction m with
 | zero =>
  intro i hi
  refine Ev.step (f := fun _ => some true) (fun k => ?_) (Ev.now _)
  simp only [l7_ObjectOpens.l0]
  rw [if_neg (by rw [List.length_map]; omega)]
 | succ m ih =>
  intro i hi
  refine Ev.step (f := fun k => l7_ObjectOpens.l0 k l (l.map cl) ((i + 1 : Nat) : Int)) (fun k => ?_) (ih (i + 1) (by omega))
  simp only [l7_ObjectOpens.l0]
  rw [if_pos (by rw [List.length_map]; omega), if_pos (by omega), if_pos (by omega), rd_cl, if_neg (by simp [cl]), w64 (by omega) (by omega)]
  rfl
theorem ObjectOpens : ∀ (a0 : ByteArray), a0.size ≤ 140737488351232 → ∃ k, l7_ObjectOpens.f k a0 = some true := by
 intro a0 _
 refine Ev.rounds (g := fun k => l7_ObjectOpens.f k a0) ?_
 have hz := few_size a0
 unfold l7_ObjectOpens.f
 simp only [few_eq, Option.bind_some]
 obtain ⟨l, e, h1, h2, h3⟩ := links_both (fewV a0) (by omega)
 refine Ev.bind (open_prog (fewV a0) (by omega)) (Ev.bind (open_ref (fewV a0) (by omega)) (Ev.bind h1 (Ev.bind h2 (Ev.bind awake ?_))))
 simp only [if_true]
 refine Ev.step (f := fun k => l7_ObjectOpens.l0 k l (l.map cl) ((0 : Nat) : Int)) (fun k => ?_) (opens_l0 l h3 l.length 0 (by omega))
 rw [l7_ObjectOpens.j0, List.length_map, if_neg (by simp)]
 rfl
end Go.Proofs.YtnapcfpecpgdbaaDoor.Pure
