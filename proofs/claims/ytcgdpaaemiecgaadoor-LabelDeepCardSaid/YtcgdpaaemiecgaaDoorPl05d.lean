/- A path's names, by the program and by the document, in plain Lean. -/
import Derived.Test.YtcgdpaaemiecgaaDoorPlSplit
import Derived.Test.YtcgdpaaemiecgaaDoorPlName
import Derived.Test.YtcgdpaaemiecgaaDoorPl05
import Derived.Test.YtcgdpaaemiecgaaDoorMx1
import Derived.Test.YtcgdpaaemiecgaaDoorMx3
namespace Go.Proofs.YtcgdpaaemiecgaaDoor.Pl
set_option linter.unusedVariables false
set_option linter.unusedSimpArgs false
open Go.RowKit Go.Proofs.YtcgdpaaemiecgaaDoor.M Go.Proofs.YtcgdpaaemiecgaaDoorW.PrintWords Go.Proofs.YtcgdpaaemiecgaaDoorW.PrintLast

theorem rdOf_at (l : List ByteArray) (i : Nat) (h : i < l.length) : rdOf ByteArray.empty l (i : Int) = l[i]'h := by
  unfold rdOf
  rw [Int.toNat_natCast, List.getD, List.getElem?_eq_getElem h]
  rfl
def nameB (s : ByteArray) : Bool := (label_Name.f s).getD false
theorem nameB_prog (s : ByteArray) (hs : s.size ≤ 140737488351232) : label_Name.f s = some (nameB s) ∧ Ev (fun k => pollardref05_Name.f k s) (nameB s) := by
  obtain ⟨r, h1, h2⟩ := name_eq s hs
  have e : nameB s = r := by unfold nameB; rw [h1]; rfl
  rw [e]
  exact ⟨h1, h2⟩
def told (P : List ByteArray) (i : Nat) : List ByteArray × Int := if (P.drop i).all nameB = true then (P, 0) else ([], 50)
theorem told_step {P : List ByteArray} {i : Nat} (h : i < P.length) : told P i = if nameB (P[i]'h) = true then told P (i + 1) else ([], 50) := by
  unfold told
  rw [List.drop_eq_getElem_cons h, List.all_cons]
  by_cases h1 : nameB (P[i]'h) = true
  · rw [if_pos h1, h1, Bool.true_and]
  · rw [if_neg h1, Bool.not_eq_true] at *
    rw [h1, Bool.false_and, if_neg (by simp)]
theorem told_end {P : List ByteArray} {i : Nat} (h : P.length ≤ i) : told P i = (P, 0) := by
  unfold told
  rw [List.drop_eq_nil_of_le h]
  rfl

theorem prog_names (P : List ByteArray) (hP : P.length ≤ 1000000) (hs : ∀ x ∈ P, x.size ≤ 140737488351232) : ∀ (n i : Nat), P.length - i = n → i ≤ P.length → Ev (fun k => label_Split.l0 k P P (P.length : Int) (i : Int)) (told P i) := by
  intro n
  induction n with
  | zero =>
    intro i hn hi
    rw [told_end (by omega)]
    refine Ev.step (f := fun _ => some (P, 0)) (fun k => ?_) (Ev.now _)
    simp only [label_Split.l0]
    rw [if_neg (by omega)]
  | succ n ih =>
    intro i hn hi
    have hlt : i < P.length := by omega
    have hN := (nameB_prog (P[i]'hlt) (hs _ (List.getElem_mem hlt))).1
    have hw : wrap64 ((i : Int) + 1) = ((i + 1 : Nat) : Int) := (w64 (by omega) (by omega)).trans (by omega)
    rw [told_step hlt]
    by_cases h1 : nameB (P[i]'hlt) = true
    · rw [if_pos h1]
      refine Ev.step (f := fun k => label_Split.l0 k P P (P.length : Int) ((i + 1 : Nat) : Int)) (fun k => ?_) (ih (i + 1) (by omega) (by omega))
      simp only [label_Split.l0]
      rw [if_pos (by omega), if_pos (by omega), if_pos (by omega), rdOf_at P i hlt, hN, Option.bind_some, if_pos h1, hw]
    · rw [if_neg h1]
      refine Ev.step (f := fun _ => some (([] : List ByteArray), 50)) (fun k => ?_) (Ev.now _)
      simp only [label_Split.l0]
      rw [if_pos (by omega), if_pos (by omega), if_pos (by omega), rdOf_at P i hlt, hN, Option.bind_some, if_neg h1]

theorem ref_names (P : List ByteArray) (hP : P.length ≤ 1000000) (hs : ∀ x ∈ P, x.size ≤ 140737488351232) : ∀ (n i : Nat), P.length - i = n → i ≤ P.length → Ev (fun k => pollardref05_Split.l1 k P (i : Int)) (told P i) := by
  intro n
  induction n with
  | zero =>
    intro i hn hi
    rw [told_end (by omega)]
    refine Ev.step (f := fun _ => some (P, 0)) (fun k => ?_) (Ev.now _)
    simp only [pollardref05_Split.l1]
    rw [if_neg (by omega)]
  | succ n ih =>
    intro i hn hi
    have hlt : i < P.length := by omega
    have hN := (nameB_prog (P[i]'hlt) (hs _ (List.getElem_mem hlt))).2
    have hw : wrap64 ((i : Int) + 1) = ((i + 1 : Nat) : Int) := (w64 (by omega) (by omega)).trans (by omega)
    rw [told_step hlt]
    refine Ev.step (f := fun k => (pollardref05_Name.f k (P[i]'hlt)).bind fun t136 => (if t136 = true then (pollardref05_Split.l1 k P ((i + 1 : Nat) : Int)) else (some (([] : List ByteArray), 50)))) (fun k => ?_) (Ev.bind hN ?_)
    · simp only [pollardref05_Split.l1]
      rw [if_pos (by omega), if_pos (by omega), rdOf_at P i hlt, hw]
    · by_cases h1 : nameB (P[i]'hlt) = true
      · rw [if_pos h1]
        exact Ev.congr (fun k => if_pos h1) (ih (i + 1) (by omega) (by omega))
      · rw [if_neg h1]
        exact Ev.congr (fun k => if_neg h1) (Ev.now _)

theorem ref_scan (s : ByteArray) (hs : s.size ≤ 1000000) {R : List ByteArray × Int} : ∀ (n i a : Nat) (out : List ByteArray), s.size - i = n → a ≤ i → i ≤ s.size → out.length + n ≤ 2000000 →
    Ev (fun k => pollardref05_Split.l0 k s (out ++ (sp0 47 (s.extract a i).toList (s.toList.drop i)).map mk) ((s.size + 1 : Nat) : Int) ((s.size + 1 : Nat) : Int)) R → Ev (fun k => pollardref05_Split.l0 k s out (a : Int) (i : Int)) R := by
  have hl := toList_length s
  intro n
  induction n with
  | zero =>
    intro i a out hn ha hi ho h
    obtain rfl : i = s.size := by omega
    rw [List.drop_eq_nil_of_le (by omega), sp0, List.map_singleton, mk_toList] at h
    refine Ev.step (f := fun k => pollardref05_Split.l0 k s (out ++ [s.extract a s.size]) ((s.size + 1 : Nat) : Int) ((s.size + 1 : Nat) : Int)) (fun k => ?_) h
    have hw : wrap64 ((s.size : Int) + 1) = ((s.size + 1 : Nat) : Int) := (w64 (by omega) (by omega)).trans (by omega)
    simp only [pollardref05_Split.l0]
    rw [if_pos (by omega), if_pos (by trivial), if_pos (by omega), if_pos (by omega), if_pos (by omega), hw, Int.toNat_natCast, Int.toNat_natCast]
  | succ n ih =>
    intro i a out hn ha hi ho h
    have hlt : i < s.size := by omega
    rw [List.drop_eq_getElem_cons (by omega), sp0] at h
    have hw : wrap64 ((i : Int) + 1) = ((i + 1 : Nat) : Int) := (w64 (by omega) (by omega)).trans (by omega)
    by_cases hc : s.toList[i]'(by omega) = 47
    · rw [if_pos hc] at h
      have hb : bt s (i : Int) = 47 := by rw [bt_toList s i hlt, hc]; rfl
      refine Ev.step (f := fun k => pollardref05_Split.l0 k s (out ++ [s.extract a i]) ((i + 1 : Nat) : Int) ((i + 1 : Nat) : Int)) (fun k => ?_) (ih (i + 1) (i + 1) (out ++ [s.extract a i]) (by omega) (by omega) (by omega) (by rw [List.length_append]; simp; omega) ?_)
      · simp only [pollardref05_Split.l0]
        rw [if_pos (by omega), if_neg (by omega), if_pos (by omega), if_pos (by omega), if_pos hb, if_pos (by omega), if_pos (by omega), if_pos (by omega), hw, Int.toNat_natCast, Int.toNat_natCast]
      · have e : (s.extract (i + 1) (i + 1)).toList = [] := by rw [size_zero, ByteArray.size_extract]; omega
        rw [e]
        rw [List.map_cons, mk_toList] at h
        rw [List.append_assoc]
        exact h
    · rw [if_neg hc, ← extract_one s a i ha hlt] at h
      have hb : ¬ bt s (i : Int) = 47 := by
        rw [bt_toList s i hlt]
        intro e
        apply hc
        apply UInt8.toNat_inj.mp
        show _ = 47
        omega
      refine Ev.step (f := fun k => pollardref05_Split.l0 k s out (a : Int) ((i + 1 : Nat) : Int)) (fun k => ?_) (ih (i + 1) a out (by omega) (by omega) (by omega) (by omega) h)
      simp only [pollardref05_Split.l0]
      rw [if_pos (by omega), if_neg (by omega), if_pos (by omega), if_pos (by omega), if_neg hb, hw]

/-- What both tell of a path. -/
def path (s : ByteArray) : List ByteArray × Int := if 64 < ((sp0 47 [] s.toList).map mk).length then ([], 3) else told ((sp0 47 [] s.toList).map mk) 0
theorem sp0_size (c : UInt8) : ∀ (l acc x : List UInt8), x ∈ sp0 c acc l → x.length ≤ acc.length + l.length
  | [], acc, x, h => by
    rw [sp0, List.mem_singleton] at h
    rw [h]; exact Nat.le_add_right _ _
  | b :: l, acc, x, h => by
    rw [sp0] at h
    rw [List.length_cons]
    by_cases hb : b = c
    · rw [if_pos hb] at h
      rcases List.mem_cons.mp h with rfl | h
      · omega
      · have := sp0_size c l [] x h
        rw [List.length_nil] at this
        omega
    · rw [if_neg hb] at h
      have := sp0_size c l _ x h
      rw [List.length_append, List.length_singleton] at this
      omega
theorem pieces (s : ByteArray) (hs : s.size ≤ 1000) : ((sp0 47 [] s.toList).map mk).length ≤ 1001 ∧ ∀ x ∈ (sp0 47 [] s.toList).map mk, x.size ≤ 140737488351232 := by
  have hl := toList_length s
  constructor
  · rw [List.length_map, sp0_length]
    have := List.count_le_length (a := (47 : UInt8)) (l := s.toList)
    omega
  · intro x hx
    obtain ⟨y, hy, rfl⟩ := List.mem_map.mp hx
    have := sp0_size 47 _ _ _ hy
    rw [mk_size]
    simp at this
    omega
theorem prog_split (s : ByteArray) (hs : s.size ≤ 1000) : Ev (fun k => label_Split.f k s) (path s) := by
  have h1 : strings_Split.f s (⟨#[47]⟩ : ByteArray) = some ((sp0 47 [] s.toList).map mk) := by
    unfold strings_Split.f
    rw [if_pos ⟨rfl, by omega⟩, splitB_sp0]
  obtain ⟨h2, h3⟩ := pieces s hs
  unfold path
  generalize (sp0 47 [] s.toList).map mk = P at *
  unfold label_Split.f
  rw [h1]
  refine Ev.congr (fun k => Option.bind_some _ _) ?_
  by_cases h : 64 < P.length
  · rw [if_pos h]
    exact Ev.congr (fun k => if_pos (by omega)) (Ev.now _)
  · rw [if_neg h]
    exact Ev.congr (fun k => if_neg (by omega)) (prog_names P (by omega) h3 P.length 0 (by omega) (by omega))
theorem ref_split (s : ByteArray) (hs : s.size ≤ 1000) : Ev (fun k => pollardref05_Split.f k s) (path s) := by
  obtain ⟨h2, h3⟩ := pieces s hs
  have e : (s.extract 0 0).toList = [] := by rw [size_zero, ByteArray.size_extract]; omega
  have hsc := ref_scan s (by omega) (R := path s) s.size 0 0 [] (by omega) (by omega) (by omega) (by simp; omega)
  rw [e, List.nil_append, List.drop_zero] at hsc
  refine hsc ?_
  unfold path
  generalize (sp0 47 [] s.toList).map mk = P at *
  by_cases h : 64 < P.length
  · rw [if_pos h]
    refine Ev.step (f := fun _ => some (([] : List ByteArray), 3)) (fun k => ?_) (Ev.now _)
    simp only [pollardref05_Split.l0]
    rw [if_neg (by omega), if_pos (by omega)]
  · rw [if_neg h]
    refine Ev.step (f := fun k => pollardref05_Split.l1 k P ((0 : Nat) : Int)) (fun k => ?_) (ref_names P (by omega) h3 P.length 0 (by omega) (by omega))
    simp only [pollardref05_Split.l0]
    rw [if_neg (by omega), if_neg (by omega)]
    rfl
end Go.Proofs.YtcgdpaaemiecgaaDoor.Pl
