/- The document's walk for a text's lines. -/
import Derived.Test.YtfkajhppdeidjaaDoorPl18
import Derived.Test.YtfkajhppdeidjaaDoorMx18
namespace Go.Proofs.YtfkajhppdeidjaaDoor.Pl
set_option linter.unusedVariables false
set_option linter.unusedSimpArgs false
open Go.RowKit Go.Proofs.YtfkajhppdeidjaaDoor.M Go.Proofs.YtfkajhppdeidjaaDoorW.PrintWords Go.Proofs.YtfkajhppdeidjaaDoorW.PrintLast
theorem ref_lines (s : ByteArray) (hs : s.size ≤ 1000000) : ∀ (n i a : Nat) (out : List ByteArray), s.size - i = n → a ≤ i → i ≤ s.size → out.length + n ≤ 2000000 →
    Ev (fun k => pollardref18_Lines.l0 k s out (a : Int) (i : Int)) (out ++ (lns 10 (s.extract a i).toList (s.toList.drop i)).map mk) := by
  have hl := toList_length s
  intro n
  induction n with
  | zero =>
    intro i a out hn ha hi ho
    obtain rfl : i = s.size := by omega
    rw [List.drop_eq_nil_of_le (by omega), lns]
    by_cases hlt : a < s.size
    · have hne : ¬ (s.extract a s.size).toList = [] := by
        rw [size_zero, ByteArray.size_extract]; omega
      rw [if_neg hne]
      refine Ev.step (f := fun _ => some (out ++ [s.extract a s.size])) (fun k => ?_) ?_
      · simp only [pollardref18_Lines.l0]
        rw [if_neg (by omega), if_pos (by omega), if_pos (by omega), if_pos (by omega), if_pos (by omega), Int.toNat_natCast]
      · rw [List.map_singleton, mk_toList]
        exact Ev.now _
    · have he : (s.extract a s.size).toList = [] := by
        rw [size_zero, ByteArray.size_extract]; omega
      rw [if_pos he]
      refine Ev.step (f := fun _ => some out) (fun k => ?_) ?_
      · simp only [pollardref18_Lines.l0]
        rw [if_neg (by omega), if_neg (by omega)]
      · rw [List.map_nil, List.append_nil]
        exact Ev.now _
  | succ n ih =>
    intro i a out hn ha hi ho
    have hlt : i < s.size := by omega
    rw [List.drop_eq_getElem_cons (by omega), lns]
    have hw : wrap64 ((i : Int) + 1) = ((i + 1 : Nat) : Int) := (w64 (by omega) (by omega)).trans (by omega)
    by_cases hc : s.toList[i]'(by omega) = 10
    · rw [if_pos hc]
      have hb : bt s (i : Int) = 10 := by rw [bt_toList s i hlt, hc]; rfl
      have h := ih (i + 1) (i + 1) (out ++ [s.extract a (i + 1)]) (by omega) (by omega) (by omega) (by rw [List.length_append]; simp; omega)
      refine Ev.step (f := fun k => pollardref18_Lines.l0 k s (out ++ [s.extract a (i + 1)]) ((i + 1 : Nat) : Int) ((i + 1 : Nat) : Int)) (fun k => ?_) ?_
      · simp only [pollardref18_Lines.l0]
        rw [if_pos (by omega), if_pos (by omega), if_pos hb, if_pos (by omega), hw, if_pos (by omega), if_pos (by omega), if_pos (by omega), Int.toNat_natCast, Int.toNat_natCast]
      · have e : (s.extract (i + 1) (i + 1)).toList = [] := by rw [size_zero, ByteArray.size_extract]; omega
        rw [e] at h
        rw [List.map_cons, ← extract_one s a i ha hlt, mk_toList]
        simpa using h
    · rw [if_neg hc]
      have hb : ¬ bt s (i : Int) = 10 := by
        rw [bt_toList s i hlt]
        intro e
        apply hc
        apply UInt8.toNat_inj.mp
        show _ = 10
        omega
      have h := ih (i + 1) a out (by omega) (by omega) (by omega) (by omega)
      refine Ev.step (f := fun k => pollardref18_Lines.l0 k s out (a : Int) ((i + 1 : Nat) : Int)) (fun k => ?_) ?_
      · simp only [pollardref18_Lines.l0]
        rw [if_pos (by omega), if_pos (by omega), if_neg hb, hw]
      · rw [← extract_one s a i ha hlt]
        exact h

theorem ref_lines_f (s : ByteArray) (hs : s.size ≤ 1000000) : Ev (fun k => pollardref18_Lines.f k s) ((lns 10 [] s.toList).map mk) := by
  have h := ref_lines s hs s.size 0 0 [] (by omega) (by omega) (by omega) (by simp; omega)
  have e : (s.extract 0 0).toList = [] := by rw [size_zero, ByteArray.size_extract]; omega
  rw [e] at h
  simpa [pollardref18_Lines.f] using h

end Go.Proofs.YtfkajhppdeidjaaDoor.Pl
