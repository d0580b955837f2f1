/- A tree's bytes are read again. -/
import Derived.Test.YtopdlgdacbonpaaPl06d
import Derived.Test.YtopdlgdacbonpaaPlName0
import Derived.Test.YtopdlgdacbonpaaMx3
import Derived.Test.YtopdlgdacbonpaaMx4
import Derived.Test.YtopdlgdacbonpaaMx7
import Derived.Test.YtopdlgdacbonpaaMx8
import Derived.Test.YtopdlgdacbonpaaMx5
import Derived.Test.YtopdlgdacbonpaaMx9
namespace Go.Proofs.Ytopdlgdacbonpaa.Pl
set_option linter.unusedVariables false
set_option linter.unusedSimpArgs false
open Go.RowKit Go.Proofs.Ytopdlgdacbonpaa.M Go.Proofs.YtopdlgdacbonpaaW.PrintWords Go.Proofs.YtopdlgdacbonpaaW.PrintLast

theorem word_nozero {m : Int} (h : 1 ≤ m ∧ m ≤ 3) : (0 : UInt8) ∉ word m := by
  have : m = 1 ∨ m = 2 ∨ m = 3 := by omega
  rcases this with rfl | rfl | rfl <;> decide

/-- A good entry's bytes, and what is behind them, are found again. -/
theorem ent_line (x : S36) (hx : Good x) (s : ByteArray) (rest : List UInt8) (h : s.toList = line x ++ rest) : ∃ r, ent s = .ok x r ∧ r.toList = rest := by
  obtain ⟨g1, g2, g3, g4⟩ := hx
  have n0 : (0 : UInt8) ∉ x.f0.toList := name_nozero _ (by unfold nameB at g1; simpa using g1)
  have w0 := word_nozero (m := x.f1) ⟨g2, g3⟩
  have hz : Lib.indexByte s.toList 0 = ((word x.f1 ++ 32 :: x.f0.toList).length : Int) := by
    rw [h]
    unfold line
    rw [List.append_assoc, List.cons_append]
    exact index_first _ _ 0 (by simp [n0, w0])
  generalize hzz : (word x.f1 ++ 32 :: x.f0.toList).length = z at hz
  have hl : s.size = z + 1 + 32 + rest.length := by
    rw [← toList_length, h]
    unfold line
    rw [List.length_append, List.length_append, hzz, List.length_cons, toList_length, g4]
  have hs1 : s.toList = (word x.f1 ++ 32 :: x.f0.toList) ++ 0 :: (x.f2.toList ++ rest) := by
    rw [h]
    unfold line
    simp
  have hd : (s.extract 0 z).toList = word x.f1 ++ 32 :: x.f0.toList := by
    rw [toList_extract, List.drop_zero, Nat.sub_zero, hs1]
    exact List.take_left' hzz
  have hb : ∀ n, (s.toList.drop (z + 1 + n)) = (x.f2.toList ++ rest).drop n := by
    intro n
    rw [hs1, List.append_cons, ← List.drop_drop, List.drop_left' (by rw [List.length_append, hzz]; rfl)]
  have hid : s.extract (z + 1) (z + 33) = x.f2 := by
    apply ba_ext
    rw [toList_extract, show z + 1 = z + 1 + 0 from rfl, hb 0, List.drop_zero]
    exact List.take_left' (by rw [toList_length]; omega)
  have hre : (s.extract (z + 33) s.size).toList = rest := by
    rw [toList_from, show z + 33 = z + 1 + 32 from rfl, hb 32]
    exact List.drop_left' (by rw [toList_length]; exact g4)
  refine ⟨_, ?_, hre⟩
  unfold ent
  rw [hz, if_neg (by omega), Int.toNat_natCast, hid]
  have hm : modeOf (s.extract 0 z) = some (x.f1, x.f0) := by
    unfold modeOf
    have ex : ∀ j : Nat, j = (word x.f1).length + 1 → (s.extract 0 z).extract j (s.extract 0 z).size = x.f0 := by
      intro j hj
      apply ba_ext
      rw [toList_from, hd, hj, List.append_cons]
      exact List.drop_left' (by rw [List.length_append]; rfl)
    rw [hd]
    generalize s.extract 0 z = h at *
    have hc : x.f1 = 1 ∨ x.f1 = 2 ∨ x.f1 = 3 := by omega
    rcases hc with e | e | e
    · rw [e] at ex ⊢
      rw [if_pos (show List.take 5 (word 1 ++ 32 :: x.f0.toList) = word 1 ++ [32] from rfl), ex 5 rfl]
    · rw [e] at ex ⊢
      rw [if_neg (by rw [show word 2 = [114, 117, 110] from rfl, show word 1 = [102, 105, 108, 101] from rfl]; simp), if_pos (show List.take 4 (word 2 ++ 32 :: x.f0.toList) = word 2 ++ [32] from rfl), ex 4 rfl]
    · rw [e] at ex ⊢
      rw [if_neg (by rw [show word 3 = [116, 114, 101, 101] from rfl, show word 1 = [102, 105, 108, 101] from rfl]; simp), if_neg (by rw [show word 3 = [116, 114, 101, 101] from rfl, show word 2 = [114, 117, 110] from rfl]; simp), if_pos (show List.take 5 (word 3 ++ 32 :: x.f0.toList) = word 3 ++ [32] from rfl), ex 5 rfl]
  rw [hm]

/-- Entries' bytes are read as these entries; too many are refused. -/
theorem tdecode : ∀ (l : List (S36)) (s : ByteArray) (acc : List (S36)), (∀ x ∈ l, Good x) → s.toList = lines l → s.size ≤ 1000000 → acc.length ≤ 256 → Small acc → Small l →
    Ev (fun k => tree_Decode.l0 k s acc) (if acc.length + l.length > 256 then ([], 3) else if chkAll (acc ++ l) = 0 then (acc ++ l, 0) else ([], chkAll (acc ++ l)))
  | [], s, acc, _, h, hs, ha, hsm, _ => by
    have h0 : s.toList = [] := h
    rw [if_neg (by simp; omega), List.append_nil]
    refine Ev.step (f := fun k => (tree_Check.f k acc).bind fun t120 => (if t120 = 0 then (some (acc, 0)) else (some (([] : List (S36)), t120)))) (fun k => ?_) (Ev.bind (tcheck acc hsm) ?_)
    · simp only [tree_Decode.l0]
      rw [if_pos h0]
    · by_cases hc : chkAll acc = 0
      · rw [if_pos hc, if_pos hc]
        exact Ev.now _
      · rw [if_neg hc, if_neg hc]
        exact Ev.now _
  | x :: l, s, acc, hg, h, hs, ha, hsm, hsl => by
    obtain ⟨r, h1, h2⟩ := ent_line x (hg x (by simp)) s (lines l) h
    obtain ⟨_, _, _, _, _, hr⟩ := ent_ok h1
    have h0 : ¬ s.toList = [] := fun e => by
      have := size_zero.mp e
      omega
    have te := tentry s (by omega)
    rw [h1] at te
    refine Ev.step (f := fun k => (tree_entry.f k s).bind fun bt121 => (if bt121.2.2.2.2 = 0 then (if acc.length < 3518437208883 then ((some (acc ++ [(⟨bt121.1, bt121.2.1, bt121.2.2.1⟩ : S36)] : List (S36))).bind fun y127 => (if (y127.length : Int) > 256 then (some (([] : List (S36)), 3)) else (tree_Decode.l0 k bt121.2.2.2.1 y127))) else (none)) else (some (([] : List (S36)), bt121.2.2.2.2)))) (fun k => ?_) (Ev.bind te ?_)
    · simp only [tree_Decode.l0]
      rw [if_neg h0]
    · unfold entVal
      refine Ev.congr (f := fun k => if acc.length + 1 > 256 then some ([], 3) else tree_Decode.l0 k r (acc ++ [x])) (fun k => ?_) ?_
      · rw [if_pos rfl, if_pos (by omega), Option.bind_some, List.length_append]
        by_cases c : acc.length + 1 > 256
        · rw [if_pos c, if_pos (by simp only [List.length_cons, List.length_nil]; omega)]
        · rw [if_neg c, if_neg (by simp only [List.length_cons, List.length_nil]; omega)]
      · by_cases c : acc.length + 1 > 256
        · rw [if_pos (by rw [List.length_cons]; omega)]
          exact Ev.congr (fun k => if_pos c) (Ev.now _)
        · have ih := tdecode l r (acc ++ [x]) (fun y hy => hg y (by simp [hy])) h2 (by omega) (by rw [List.length_append]; simp only [List.length_cons, List.length_nil]; omega) (by
            intro y hy
            rcases List.mem_append.mp hy with hy | hy
            · exact hsm y hy
            · rw [List.mem_singleton.mp hy]
              exact hsl x (by simp)) (fun y hy => hsl y (by simp [hy]))
          rw [List.append_assoc, List.singleton_append, List.length_append] at ih
          rw [List.length_cons, show acc.length + (l.length + 1) = acc.length + [x].length + l.length by simp only [List.length_cons, List.length_nil]; omega]
          exact Ev.congr (fun k => if_neg c) ih

theorem line_eq (x : S36) (h : 1 ≤ x.f1 ∧ x.f1 ≤ 3) : ∃ t, tree_Encode.line x = some t ∧ t.toList = line x := by
  have hr : tree_Encode.line x = some ((⟨(word x.f1).toArray⟩ : ByteArray) ++ (⟨#[32]⟩ : ByteArray) ++ x.f0 ++ (⟨#[0]⟩ : ByteArray) ++ x.f2) := by
    unfold tree_Encode.line tree_modes.f
    rw [Option.bind_some, if_pos ⟨by omega, by simp only [List.length_cons, List.length_nil]; omega⟩]
    have hc : x.f1 = 1 ∨ x.f1 = 2 ∨ x.f1 = 3 := by omega
    rcases hc with e | e | e <;> rw [e] <;> rfl
  refine ⟨_, hr, ?_⟩
  unfold line
  rw [toList_append, toList_append, toList_append, toList_append, toList_lit, toList_eq ⟨#[32]⟩, toList_eq ⟨#[0]⟩]
  simp

theorem enc_go : ∀ (l : List (S36)) (s : ByteArray), (∀ x ∈ l, 1 ≤ x.f1 ∧ x.f1 ≤ 3) → s.size + (lines l).length ≤ 140737488355328 → ∃ t, tree_Encode.go l s = some t ∧ t.toList = s.toList ++ lines l
  | [], s, _, _ => ⟨s, rfl, by simp [lines]⟩
  | x :: l, s, hm, hs => by
    obtain ⟨t, h1, h2⟩ := line_eq x (hm x (by simp))
    simp only [lines, List.length_append] at hs
    have hsz : (s ++ t).size + (lines l).length ≤ 140737488355328 := by
      rw [ByteArray.size_append, ← toList_length t, h2]
      omega
    obtain ⟨u, h3, h4⟩ := enc_go l (s ++ t) (fun y hy => hm y (by simp [hy])) hsz
    refine ⟨u, ?_, ?_⟩
    · simp only [tree_Encode.go]
      rw [h1, Option.bind_some, if_pos (by rw [← toList_length t, h2]; omega)]
      exact h3
    · rw [h4, toList_append, h2, List.append_assoc]
      rfl

/-- What tree.Encode comes to. -/
theorem tencode (l : List (S36)) (hs : Small l) (hl : (lines l).length ≤ 1000000) (hg : chkAll l = 0 → ∀ x ∈ l, Good x) : ∃ t : ByteArray, Ev (fun k => tree_Encode.f k l) (if chkAll l = 0 then (t, 0) else (⟨#[]⟩, chkAll l)) ∧ t.toList = lines l := by
  by_cases hc : chkAll l = 0
  · have hm : ∀ x ∈ l, 1 ≤ x.f1 ∧ x.f1 ≤ 3 := fun x hx => ⟨(hg hc x hx).2.1, (hg hc x hx).2.2.1⟩
    obtain ⟨t, h1, h2⟩ := enc_go l ⟨#[]⟩ hm (by
      have : (⟨#[]⟩ : ByteArray).size = 0 := rfl
      omega)
    refine ⟨t, ?_, by rw [h2, toList_nil]; rfl⟩
    rw [if_pos hc]
    unfold tree_Encode.f
    refine Ev.bind (tcheck l hs) ?_
    rw [if_pos hc, h1]
    exact Ev.now _
  · obtain ⟨t, ht⟩ : ∃ t : ByteArray, t.toList = lines l := ⟨⟨(lines l).toArray⟩, toList_lit _⟩
    refine ⟨t, ?_, ht⟩
    rw [if_neg hc]
    unfold tree_Encode.f
    refine Ev.bind (tcheck l hs) ?_
    rw [if_neg hc]
    exact Ev.now _

/-- Entries as the document has them. -/
theorem ref_eq (l : List (S36)) (hl : l.length ≤ 1000000) : Ev (fun k => pollardlaw06_Ref.f k l) (l.map cv) := by
  have go : ∀ (m i : Nat), i + m = l.length → Ev (fun k => pollardlaw06_Ref.l0 k l ((l.take i).map cv) (i : Int)) (l.map cv) := by
    intro m
    induction m with
    | zero =>
      intro i hi
      rw [List.take_of_length_le (by omega)]
      refine Ev.step (f := fun _ => some (l.map cv)) (fun k => ?_) (Ev.now _)
      simp only [pollardlaw06_Ref.l0]
      rw [if_neg (by omega)]
    | succ m ih =>
      intro i hi
      have hlt : i < l.length := by omega
      refine Ev.step (f := fun k => pollardlaw06_Ref.l0 k l ((l.take (i + 1)).map cv) ((i + 1 : Nat) : Int)) (fun k => ?_) (ih (i + 1) (by omega))
      simp only [pollardlaw06_Ref.l0]
      rw [if_pos (by omega), if_pos (by omega), if_pos (by rw [List.length_map, List.length_take]; omega), rd_nat l i hlt, w64 (by omega) (by omega), List.take_succ_eq_append_getElem hlt, List.map_append]
      rfl
  exact go l.length 0 (by omega)
end Go.Proofs.Ytopdlgdacbonpaa.Pl
