/- What texts come to: the program's road over lines and chunks, in plain Lean. -/
import Derived.Test.YtfkajhppdeidjaaDoorPl19d
import Derived.Test.YtfkajhppdeidjaaDoorPl18
import Derived.Lib.Join
import Derived.Test.YtfkajhppdeidjaaDoorPl19a
import Derived.Test.YtfkajhppdeidjaaDoorMx13
import Derived.Test.YtfkajhppdeidjaaDoorMx16
import Derived.Test.YtfkajhppdeidjaaDoorMx12
namespace Go.Proofs.YtfkajhppdeidjaaDoor.Pl
set_option linter.unusedVariables false
set_option linter.unusedSimpArgs false
open Go.RowKit Go.Proofs.YtfkajhppdeidjaaDoor.M Go.Proofs.YtfkajhppdeidjaaDoorW.PrintWords Go.Proofs.YtfkajhppdeidjaaDoorW.PrintLast

def nilB : ByteArray := ⟨#[]⟩
theorem nilB_list : nilB.toList = [] := toList_nil
theorem join_empty : ∀ l : List (List UInt8), Lib.join l [] = l.flatten
  | [] => rfl
  | x :: r => by
    rw [Lib.join_cons, Lib.joinTail]
    simp
def sz (l : List ByteArray) : Nat := (l.map (·.size)).sum
theorem sz_append (l m : List ByteArray) : sz (l ++ m) = sz l + sz m := by
  unfold sz
  rw [List.map_append, List.sum_append]
theorem joinB_size : ∀ (l : List ByteArray) (s : ByteArray), (joinB l s).size = s.size + sz l
  | [], s => rfl
  | x :: l, s => by
    rw [joinB, joinB_size l, ByteArray.size_append]
    show _ = s.size + (x.size + sz l)
    omega
theorem joinB_behind (l : List ByteArray) (s : ByteArray) : s ++ joinB l nilB = joinB l s := by
  apply ba_ext
  rw [toList_append, joinB_toList, joinB_toList, nilB_list, List.nil_append]
theorem join_f (l : List ByteArray) (h : sz l ≤ 1000000) (hl : l.length ≤ 1000000) : strings_Join.f l (⟨#[]⟩ : ByteArray) = some (joinB l nilB) := by
  have e : Lib.join (l.map (·.data.toList)) (⟨#[]⟩ : ByteArray).data.toList = (joinB l nilB).toList := by
    show Lib.join (l.map (·.data.toList)) [] = _
    rw [join_empty, joinB_toList, nilB_list, List.nil_append]
    congr 1
    apply List.map_congr_left
    intro a _
    exact (toList_eq a).symm
  unfold strings_Join.f
  have hs : (joinB l nilB).toList.length ≤ 140737488355328 := by
    rw [toList_length, joinB_size]
    show 0 + sz l ≤ _
    omega
  rw [e, if_pos ⟨hs, by omega⟩]
  congr 1
  exact mk_toList _
def wt (L : List Chk) : Nat := (L.map (fun c => sz (takes c))).sum
theorem sz_flat (g : Chk → List ByteArray) : ∀ L : List Chk, sz (L.flatMap g) = (L.map (fun c => sz (g c))).sum
  | [] => rfl
  | c :: L => by
    rw [List.flatMap_cons, sz_append, sz_flat g L]
    rfl
theorem wt_le : ∀ L : List Chk, wt L ≤ sz (L.flatMap (·.2.2.1)) + sz (L.flatMap (·.2.2.2))
  | [] => Nat.zero_le _
  | c :: L => by
    have ih := wt_le L
    have e : wt (c :: L) = sz (takes c) + wt L := rfl
    rw [e, List.flatMap_cons, List.flatMap_cons, sz_append, sz_append]
    have h : sz (takes c) ≤ sz c.2.2.1 + sz c.2.2.2 := by
      unfold takes
      split <;> omega
    omega
theorem len_flat (g : Chk → List ByteArray) : ∀ (L : List Chk) (c : Chk), c ∈ L → (g c).length ≤ (L.flatMap g).length
  | [], c, h => by cases h
  | d :: L, c, h => by
    rw [List.flatMap_cons, List.length_append]
    rcases List.mem_cons.mp h with e | h
    · rw [e]; omega
    · have := len_flat g L c h; omega
theorem go_txt : ∀ (L : List Chk) (s : ByteArray), s.size + wt L ≤ 1000000 → (∀ c ∈ L, (takes c).length ≤ 1000000) → merge_Texts.go (L.map asP) s = some (txt L s)
  | [], s, _, _ => rfl
  | c :: L, s, h, hl => by
    have e : wt (c :: L) = sz (takes c) + wt L := rfl
    rw [List.map_cons, merge_Texts.go, txt]
    by_cases h5 : c.1 = 5
    · rw [if_pos (show (asP c).f0 = 5 from h5), if_pos h5]
    · rw [if_neg (show ¬ (asP c).f0 = 5 from h5), if_neg h5]
      have hm : merge_lines.f (asP c).f0 (asP c).f1 (asP c).f2 (asP c).f3 = some (takes c) := by
        unfold merge_lines.f takes asP
        by_cases h3 : c.1 = 3
        · rw [if_pos h3, if_pos h3]
        · rw [if_neg h3, if_neg h3]
      have hz : (joinB (takes c) nilB).size = sz (takes c) := by
        rw [joinB_size]
        show 0 + sz (takes c) = _
        omega
      rw [hm, Option.bind_some, join_f _ (by omega) (hl c List.mem_cons_self), Option.bind_some, if_pos (by omega), joinB_behind]
      exact go_txt L _ (by rw [joinB_size]; omega) (fun d hd => hl d (List.mem_cons_of_mem _ hd))

/-! a text's lines -/
def lines (s : ByteArray) : List ByteArray := (lns 10 [] s.toList).map mk
theorem lines_flat (s : ByteArray) : ((lines s).map (·.toList)).flatten = s.toList := by
  have h := lns_flat 10 s.toList []
  rw [List.nil_append] at h
  unfold lines
  rw [List.map_map]
  conv => rhs; rw [← h]
  congr 1
  conv => rhs; rw [← List.map_id (lns 10 [] s.toList)]
  apply List.map_congr_left
  intro a _
  exact toList_mk a
theorem lines_join (s : ByteArray) : joinB (lines s) nilB = s := by
  apply ba_ext
  rw [joinB_toList, lines_flat, nilB_list, List.nil_append]
theorem lines_sz (s : ByteArray) : sz (lines s) = s.size := by
  have h := joinB_size (lines s) nilB
  rw [lines_join] at h
  have : nilB.size = 0 := rfl
  omega
theorem lns_count (c : UInt8) : ∀ l acc : List UInt8, (lns c acc l).length ≤ l.count c + 1
  | [], acc => by
    rw [lns]
    split <;> simp
  | b :: l, acc => by
    rw [lns]
    by_cases h : b = c
    · have := lns_count c l []
      subst h
      rw [if_pos rfl, List.length_cons, List.count_cons_self]
      omega
    · have := lns_count c l (acc ++ [b])
      rw [if_neg h, List.count_cons_of_ne h]
      omega
theorem lines_count (s : ByteArray) : (lines s).length ≤ s.toList.count 10 + 1 := by
  unfold lines
  rw [List.length_map]
  exact lns_count 10 _ _
theorem prog_texts (a b c : ByteArray) (ha : a.size ≤ 10000) (hb : b.size ≤ 10000) (hc : c.size ≤ 10000) (la : (lines a).length ≤ 400) (lb : (lines b).length ≤ 400) (lc : (lines c).length ≤ 400) :
    Ev (fun k => merge_Texts.f k a b c) (merge_Texts.out (txt (chunks (lines a) (lines b) (lines c)) nilB)) := by
  obtain ⟨_, _, _, f4, f5, _⟩ := chunks_facts (lines a) (lines b) (lines c)
  have hw := wt_le (chunks (lines a) (lines b) (lines c))
  rw [f4, f5, lines_sz, lines_sz] at hw
  have e0 : nilB.size = 0 := rfl
  have hg := go_txt (chunks (lines a) (lines b) (lines c)) nilB (by omega) (fun d hd => by
    have h1 := len_flat (·.2.2.1) _ d hd
    have h2 := len_flat (·.2.2.2) _ d hd
    rw [f4] at h1
    rw [f5] at h2
    unfold takes
    split <;> omega)
  unfold merge_Texts.f
  rw [prog_lines a (by omega), prog_lines b (by omega), prog_lines c (by omega)]
  refine Ev.congr (fun k => (Option.bind_some _ _).trans ((Option.bind_some _ _).trans (Option.bind_some _ _))) ?_
  refine Ev.bind (prog_chunks (lines a) (lines b) (lines c) la lb lc) ?_
  refine Ev.congr (fun k => ?_) (Ev.now _)
  rw [if_pos rfl]
  show (merge_Texts.go ((chunks (lines a) (lines b) (lines c)).map asP) nilB).bind _ = _
  rw [hg]
  rfl

/-! the statements' texts -/
theorem count_one (x : UInt8) : ([x] : List UInt8).count 10 = if x = 10 then 1 else 0 := by
  rw [List.count_cons, List.count_nil, Nat.zero_add]
  by_cases h : x = 10
  · rw [if_pos h, if_pos (by simp [h])]
  · rw [if_neg h, if_neg (by simp [h])]
theorem one_byte (t : ByteArray) (i : Nat) (hi : i < t.size) : (t.extract i (i + 1)).toList = [t.toList[i]'(by rw [toList_length]; exact hi)] := by
  rw [extract_one t i i (Nat.le_refl _) hi]
  have : (t.extract i i).toList = [] := by rw [size_zero, ByteArray.size_extract]; omega
  rw [this]
  rfl
theorem text_l1 (x0 : List ByteArray) (x4 : Int) (t : ByteArray) (ht : t.size ≤ 1000) : ∀ (n i : Nat) (s : ByteArray), t.size - i = n → i ≤ t.size → s.size + n ≤ 100000 →
    ∃ s', s'.size ≤ s.size + n + 1 ∧ s'.toList.count 10 = s.toList.count 10 + 1 ∧ (∀ R, Ev (fun k => pollardlaw19_text.l0 k x0 s' (wrap64 (x4 + 1))) R → Ev (fun k => pollardlaw19_text.l1 k x0 s x4 t (i : Int)) R) := by
  intro n
  induction n with
  | zero =>
    intro i s hn hi hs
    refine ⟨s ++ (⟨#[10]⟩ : ByteArray), by rw [ByteArray.size_append]; show s.size + 1 ≤ _; omega, ?_, fun R h => Ev.step (fun k => ?_) h⟩
    · rw [toList_append, List.count_append]
      show _ + (⟨#[10]⟩ : ByteArray).toList.count 10 = _
      rw [show (⟨#[10]⟩ : ByteArray).toList = [10] from toList_lit [10]]
      rfl
    · simp only [pollardlaw19_text.l1]
      rw [if_neg (by omega), if_pos (by omega)]
  | succ n ih =>
    intro i s hn hi hs
    have hlt : i < t.size := by omega
    have hw : wrap64 ((i : Int) + 1) = ((i + 1 : Nat) : Int) := w64s (by omega)
    have hb := bt_toList t i hlt
    by_cases hc : t.toList[i]'(by rw [toList_length]; exact hlt) = 10
    · obtain ⟨s', h1, h2, h3⟩ := ih (i + 1) s (by omega) (by omega) (by omega)
      refine ⟨s', by omega, h2, fun R h => Ev.step (fun k => ?_) (h3 R h)⟩
      have hb1 : bt t (i : Int) = 10 := by rw [hb, hc]; rfl
      simp only [pollardlaw19_text.l1]
      rw [if_pos (by omega), if_pos (by omega), if_pos hb1, hw]
    · have hz : (t.extract i (i + 1)).size = 1 := by rw [ByteArray.size_extract]; omega
      have hsz : (s ++ t.extract i (i + 1)).size = s.size + 1 := by rw [ByteArray.size_append, hz]
      obtain ⟨s', h1, h2, h3⟩ := ih (i + 1) (s ++ t.extract i (i + 1)) (by omega) (by omega) (by omega)
      refine ⟨s', by omega, ?_, fun R h => Ev.step (fun k => ?_) (h3 R h)⟩
      · rw [h2, toList_append, List.count_append, one_byte t i hlt, count_one, if_neg hc, Nat.add_zero]
      · have hb2 : ¬ bt t (i : Int) = 10 := by
          rw [hb]
          intro e
          apply hc
          apply UInt8.toNat_inj.mp
          show _ = 10
          omega
        simp only [pollardlaw19_text.l1]
        rw [if_pos (by omega), if_pos (by omega), if_neg hb2, hw, if_pos (by omega), if_pos (by omega), Int.toNat_natCast, Int.toNat_natCast, hz, if_pos (by omega)]
theorem text_l0 (x0 : List ByteArray) : ∀ (n i : Nat) (s : ByteArray), 30 - i = n → s.size + 21 * n ≤ 10000 → ∃ s', s'.size ≤ s.size + 21 * n ∧ s'.toList.count 10 ≤ s.toList.count 10 + n ∧ Ev (fun k => pollardlaw19_text.l0 k x0 s (i : Int)) s' := by
  intro n
  induction n with
  | zero =>
    intro i s hn hs
    refine ⟨s, by omega, by omega, ?_⟩
    refine Ev.step (f := fun k => pollardlaw19_text.j1 k x0 s (i : Int) false) (fun k => ?_) (Ev.step (f := fun _ => some s) (fun k => ?_) (Ev.now _))
    · simp only [pollardlaw19_text.l0]
      by_cases h : (i : Int) < (x0.length : Int)
      · rw [if_pos h, decide_eq_false (by omega)]
      · rw [if_neg h]
    · simp only [pollardlaw19_text.j1]
      rw [if_neg (by simp)]
  | succ n ih =>
    intro i s hn hs
    by_cases h : i < x0.length
    · have hat := rdOf_at x0 i h
      obtain ⟨x, hx⟩ : ∃ x, x0[i]'h = x := ⟨_, rfl⟩
      rw [hx] at hat
      have hw : wrap64 ((i : Int) + 1) = ((i + 1 : Nat) : Int) := w64s (by omega)
      have main : ∀ t : ByteArray, t.size ≤ 20 → ∃ s', s'.size ≤ s.size + 21 * (n + 1) ∧ s'.toList.count 10 ≤ s.toList.count 10 + (n + 1) ∧ Ev (fun k => pollardlaw19_text.j2 k x0 s (i : Int) t) s' := by
        intro t ht
        obtain ⟨s1, h1, h2, h3⟩ := text_l1 x0 (i : Int) t (by omega) t.size 0 s (by omega) (by omega) (by omega)
        obtain ⟨s2, g1, g2, g3⟩ := ih (i + 1) s1 (by omega) (by omega)
        rw [hw] at h3
        refine ⟨s2, by omega, by omega, Ev.step (fun k => ?_) (h3 s2 g3)⟩
        simp only [pollardlaw19_text.j2]
        rfl
      have front : ∀ {R : ByteArray}, Ev (fun k => pollardlaw19_text.j1 k x0 s (i : Int) true) R → Ev (fun k => pollardlaw19_text.l0 k x0 s (i : Int)) R := fun h => Ev.step (fun k => by
        simp only [pollardlaw19_text.l0]
        rw [if_pos (by omega), decide_eq_true (by omega)]) h
      by_cases hx20 : x.size > 20
      · obtain ⟨s', h1, h2, h3⟩ := main (x.extract 0 20) (by rw [ByteArray.size_extract]; omega)
        refine ⟨s', h1, h2, front (Ev.step (fun k => ?_) h3)⟩
        simp only [pollardlaw19_text.j1]
        rw [if_pos (by trivial), if_pos (by omega), if_pos (by omega), hat, if_pos (by omega), if_pos (by omega), if_pos (by omega)]
      · obtain ⟨s', h1, h2, h3⟩ := main x (by omega)
        refine ⟨s', h1, h2, front (Ev.step (fun k => ?_) h3)⟩
        simp only [pollardlaw19_text.j1]
        rw [if_pos (by trivial), if_pos (by omega), if_pos (by omega), hat, if_neg (by omega)]
    · refine ⟨s, by omega, by omega, ?_⟩
      refine Ev.step (f := fun k => pollardlaw19_text.j1 k x0 s (i : Int) false) (fun k => ?_) (Ev.step (f := fun _ => some s) (fun k => ?_) (Ev.now _))
      · simp only [pollardlaw19_text.l0]
        rw [if_neg (by omega)]
      · simp only [pollardlaw19_text.j1]
        rw [if_neg (by simp)]
/-- A statement's text: not long, of few lines. -/
theorem text_f (l : List ByteArray) : ∃ s, s.size ≤ 630 ∧ (lines s).length ≤ 31 ∧ Ev (fun k => pollardlaw19_text.f k l) s := by
  obtain ⟨s, h1, h2, h3⟩ := text_l0 l 30 0 nilB (by omega) (by show 0 + _ ≤ _; omega)
  refine ⟨s, by have : nilB.size = 0 := rfl; omega, ?_, h3⟩
  have h4 := lines_count s
  have h5 : nilB.toList.count 10 = 0 := by rw [nilB_list]; rfl
  omega
end Go.Proofs.YtfkajhppdeidjaaDoor.Pl
