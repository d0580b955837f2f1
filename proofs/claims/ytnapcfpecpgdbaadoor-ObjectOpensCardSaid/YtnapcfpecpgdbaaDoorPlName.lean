/- Which texts may be names: as the document has it. -/
import Derived.Test.YtnapcfpecpgdbaaDoorMx16
import Derived.Test.YtnapcfpecpgdbaaDoorMx7
import Derived.Test.YtnapcfpecpgdbaaDoorPlUtf8
namespace Go.Proofs.YtnapcfpecpgdbaaDoor.Pl
open Go.RowKit Go.Proofs.YtnapcfpecpgdbaaDoor.M Go.Proofs.YtnapcfpecpgdbaaDoorW.PrintWords Go.Proofs.YtnapcfpecpgdbaaDoorW.PrintLast

theorem plain_iff (c : Int) : label_plain.f c = some (decide (32 ≤ c ∧ c ≠ 47 ∧ c ≠ 65533 ∧ (c < 127 ∨ 159 < c))) := by
 unfold label_plain.f
 repeat' split
 all_goals congr 1
 all_goals first | (symm; simp; omega) | exact decide_eq_decide.mpr (by omega)

theorem name_go (s : ByteArray) (hs : s.size ≤ 140737488351232) (fuel : Nat) : ∀ (pos : Nat), pos ≤ s.size → s.size ≤ pos + fuel →
 Ev (fun k => r5_Name.l0 k (s.extract pos s.size)) (label_Name.go s fuel pos) := by
 induction fuel with
 | zero =>
  intro pos h1 h2
  refine Ev.step (f := fun _ => some true) (fun k => ?_) (Ev.now _)
  simp only [r5_Name.l0]
  rw [if_neg (by rw [extract_size]; omega)]
 | succ fuel ih =>
  intro pos h1 h2
  by_cases hp : pos < s.size
  ·
   have hf := decode_fits s pos hp
   have hd := decode_pos s pos
   have fd := first_dec s pos hp hs
   simp only [label_Name.go]
   rw [if_pos hp, plain_iff]
   refine Ev.step (f := fun k => (r5_first.f k (s.extract pos s.size)).bind fun bt109 => (if bt109.1 < 32 then (some false) else (if bt109.1 = 47 then (some false) else (if bt109.1 ≥ 127 then (if bt109.1 ≤ 159 then (some false) else (if bt109.1 = 65533 then (some false) else (if 0 ≤ bt109.2 then (if bt109.2 ≤ ((s.extract pos s.size).size : Int) then (r5_Name.l0 k ((s.extract pos s.size).extract (bt109.2 : Int).toNat (s.extract pos s.size).size)) else (none)) else (none)))) else (if bt109.1 = 65533 then (some false) else (if 0 ≤ bt109.2 then (if bt109.2 ≤ ((s.extract pos s.size).size : Int) then (r5_Name.l0 k ((s.extract pos s.size).extract (bt109.2 : Int).toNat (s.extract pos s.size).size)) else (none)) else (none))))))) (fun k => ?_) (Ev.bind fd ?_)
   · simp only [r5_Name.l0]
     rw [if_pos (by rw [extract_size]; omega)]
   ·
    rw [extract_extract]
    by_cases hl : Utf8.decode s pos = (65533, 1)
    · have e : dec s pos = (-1, 1) := by unfold dec; rw [if_pos hl]
      rw [e, hl, if_pos (by simp)]
      refine Ev.congr (fun k => ?_) (Ev.now false)
      rw [if_pos (by decide)]
    ·
     have e : dec s pos = (((Utf8.decode s pos).1 : Int), ((Utf8.decode s pos).2 : Int)) := by unfold dec; rw [if_neg hl]
     rw [e, extract_size]
     have ih' := ih (pos + (Utf8.decode s pos).2) (by omega) (by omega)
     generalize Utf8.decode s pos = d at *
     obtain ⟨c, m⟩ := d
     simp only at hf hd ih' ⊢
     by_cases h : 32 ≤ (c : Int) ∧ (c : Int) ≠ 47 ∧ (c : Int) ≠ 65533 ∧ ((c : Int) < 127 ∨ 159 < (c : Int))
     · rw [if_neg (by simp [h])]
       refine Ev.congr (fun k => ?_) ih'
       rw [if_neg (by omega), if_neg (by omega)]
       by_cases h127 : (c : Int) ≥ 127
       · rw [if_pos h127, if_neg (by omega), if_neg (by omega), if_pos (by omega), if_pos (by omega)]
         rfl
       · rw [if_neg h127, if_neg (by omega), if_pos (by omega), if_pos (by omega)]
         rfl
     ·
      rw [if_pos (by rw [decide_eq_false h])]
      refine Ev.congr (fun k => ?_) (Ev.now false)
      by_cases a1 : (c : Int) < 32
      · rw [if_pos a1]
      rw [if_neg a1]
      by_cases a2 : (c : Int) = 47
      · rw [if_pos a2]
      rw [if_neg a2]
      by_cases h127 : (c : Int) ≥ 127
      · rw [if_pos h127]
        by_cases a3 : (c : Int) ≤ 159
        · rw [if_pos a3]
        rw [if_neg a3, if_pos (by omega)]
      · rw [if_neg h127, if_pos (by omega)]
  · simp only [label_Name.go]
    rw [if_neg hp]
    refine Ev.step (f := fun _ => some true) (fun k => ?_) (Ev.now _)
    simp only [r5_Name.l0]
    rw [if_neg (by rw [extract_size]; omega)]

/-- Which texts may be names: as the document has it. -/
theorem name_eq (s : ByteArray) (hs : s.size ≤ 140737488351232) : ∃ r, label_Name.f s = some r ∧ Ev (fun k => r5_Name.f k s) r := by
 have h := name_go s hs s.size 0 (by omega) (by omega)
 rw [extract_all] at h
 unfold label_Name.f r5_Name.f
 have no : Ev (fun k => r5_Name.j0 k s true) false := Ev.step (f := fun _ => some false) (fun k => by simp [r5_Name.j0]) (Ev.now _)
 by_cases c1 : s.toList = ([] : List UInt8)
 · exact ⟨false, by rw [if_pos c1], Ev.congr (fun k => by rw [if_pos c1]) no⟩
 by_cases c2 : (s.size : Int) > 64
 · exact ⟨false, by rw [if_neg c1, if_pos c2], Ev.congr (fun k => by rw [if_neg c1, if_pos c2]) no⟩
 by_cases c3 : s.toList = ([46] : List UInt8)
 · exact ⟨false, by rw [if_neg c1, if_neg c2, if_pos c3], Ev.congr (fun k => by rw [if_neg c1, if_neg c2, if_pos c3]) no⟩
 by_cases c4 : s.toList = ([46, 46] : List UInt8)
 · exact ⟨false, by rw [if_neg c1, if_neg c2, if_neg c3, if_pos c4], Ev.congr (fun k => by rw [if_neg c1, if_neg c2, if_neg c3, beq_iff_eq.mpr c4]) no⟩
 · refine ⟨label_Name.go s s.size 0, by rw [if_neg c1, if_neg c2, if_neg c3, if_neg c4], Ev.step (f := fun k => r5_Name.l0 k s) (fun k => ?_) h⟩
   rw [if_neg c1, if_neg c2, if_neg c3, beq_eq_false_iff_ne.mpr c4]
   simp only [r5_Name.j0]
   rw [if_neg (by simp)]
end Go.Proofs.YtnapcfpecpgdbaaDoor.Pl
