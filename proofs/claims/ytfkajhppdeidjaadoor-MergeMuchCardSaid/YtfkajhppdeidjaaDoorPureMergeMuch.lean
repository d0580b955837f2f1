/- Texts of too many lines are told so. Conditions: none. -/
import Derived.Test.YtfkajhppdeidjaaDoorMx12
import Derived.Test.YtfkajhppdeidjaaDoorPl19e
import Derived.Test.YtfkajhppdeidjaaDoorPlBits
namespace Go.Proofs.YtfkajhppdeidjaaDoor.Pure
set_option linter.unusedVariables false
open Go.RowKit Go.Proofs.YtfkajhppdeidjaaDoor.M Go.Proofs.YtfkajhppdeidjaaDoorW.PrintWords Go.Proofs.YtfkajhppdeidjaaDoorW.PrintLast Go.Proofs.YtfkajhppdeidjaaDoor.Pl

theorem over {a b : List ByteArray} (h : 400 < a.length ∨ 400 < b.length) : Ev (fun k => diff_Pairs.f k a b) (([] : List S66), 3) := by
  refine Ev.congr (f := fun k => diff_Pairs.j0 k a b true) (fun k => ?_) ?_
  · unfold diff_Pairs.f
    by_cases h1 : (a.length : Int) > 400
    · rw [if_pos h1]
    · rw [if_neg h1, decide_eq_true (by omega)]
  · refine Ev.step (f := fun _ => some (([] : List S66), 3)) (fun k => ?_) (Ev.now _)
    simp only [diff_Pairs.j0]
    rw [if_pos (by trivial)]
theorem partners_over {a b : List ByteArray} (ha : a.length ≤ 1000) (hb : b.length ≤ 1000) (h : 400 < a.length ∨ 400 < b.length) : ∃ X, Ev (fun k => merge_partners.f k a b) (X, 3) := by
  refine ⟨List.replicate a.length (-1), ?_⟩
  have hR : Ev (fun k => (diff_Pairs.f k a b).bind fun bt => merge_partners.l1 k (List.replicate a.length (-1)) bt.2 bt.1 (bt.1.length : Int) 0) (List.replicate a.length (-1), 3) := by
    refine Ev.bind (over h) ?_
    refine Ev.step (f := fun _ => some (List.replicate a.length (-1), 3)) (fun k => ?_) (Ev.now _)
    simp only [merge_partners.l1]
    rw [if_neg (by simp)]
  have h0 := part_l0 a b (by omega) (by omega) hR a.length 0 (by omega) (by omega)
  unfold merge_partners.f
  refine Ev.congr (fun k => ?_) h0
  rw [if_pos (by omega), if_pos (by omega), Option.bind_some, List.length_replicate, Int.toNat_natCast]
  rfl
theorem texts_over (a b c : ByteArray) (ha : a.size ≤ 10000) (hb : b.size ≤ 10000) (hc : c.size ≤ 10000) (la : (lines a).length ≤ 1000) (lb : (lines b).length ≤ 1000) (h : 400 < (lines a).length ∨ 400 < (lines b).length) :
    Ev (fun k => merge_Texts.f k a b c) ((⟨#[]⟩ : ByteArray), false, 3) := by
  obtain ⟨X, hX⟩ := partners_over la lb h
  unfold merge_Texts.f
  rw [prog_lines a (by omega), prog_lines b (by omega), prog_lines c (by omega)]
  refine Ev.congr (fun k => (Option.bind_some _ _).trans ((Option.bind_some _ _).trans (Option.bind_some _ _))) ?_
  have hC : Ev (fun k => merge_Chunks.f k (lines a) (lines b) (lines c)) (([] : List S32), 3) := by
    unfold merge_Chunks.f
    refine Ev.bind hX ?_
    exact Ev.congr (fun k => if_neg (show ¬ ((3 : Int) = 0) by decide)) (Ev.now _)
  refine Ev.bind hC ?_
  exact Ev.congr (fun k => if_neg (by decide)) (Ev.now _)

/-- So many lines of one letter. -/
def xs (m : Nat) : ByteArray := mk (List.replicate m [120, 10]).flatten
theorem xs_list (m : Nat) : (xs m).toList = (List.replicate m [120, 10]).flatten := toList_mk _
theorem xs_next (m : Nat) : xs m ++ (⟨#[120, 10]⟩ : ByteArray) = xs (m + 1) := by
  apply ba_ext
  rw [toList_append, xs_list, xs_list, List.replicate_succ', List.flatten_append, show (⟨#[120, 10]⟩ : ByteArray).toList = [120, 10] from toList_lit [120, 10]]
  simp
theorem xs_size : ∀ m, (xs m).size = 2 * m
  | 0 => rfl
  | m + 1 => by
    rw [← xs_next, ByteArray.size_append, xs_size m]
    rfl
theorem xs_lns (t : List UInt8) : ∀ m, lns 10 [] ((List.replicate m [120, 10]).flatten ++ t) = List.replicate m [120, 10] ++ lns 10 [] t
  | 0 => rfl
  | m + 1 => by
    rw [List.replicate_succ, List.flatten_cons, List.append_assoc]
    show lns 10 [] (120 :: 10 :: ((List.replicate m [120, 10]).flatten ++ t)) = _
    rw [lns, if_neg (by decide), lns, if_pos rfl, xs_lns t m]
    rfl
theorem lines_xs (m : Nat) : (lines (xs m)).length = m := by
  unfold lines
  have h := xs_lns [] m
  rw [List.append_nil] at h
  rw [xs_list, h, List.length_map, List.length_append, List.length_replicate]
  rfl
theorem lines_xsy (m : Nat) : (lines (xs m ++ (⟨#[121]⟩ : ByteArray))).length = m + 1 := by
  unfold lines
  rw [toList_append, xs_list, show (⟨#[121]⟩ : ByteArray).toList = [121] from toList_lit [121], xs_lns, List.length_map, List.length_append, List.length_replicate]
  rfl
theorem much_l0 (m : Nat) (hm : m ≤ 1000) {R : Bool} (h : Ev (fun k => (merge_Texts.f k (xs m) (xs m ++ (⟨#[121]⟩ : ByteArray)) (xs m)).bind fun bt526 => (if (wrap64 ((m : Int) + 1)) > 400 then ((pollardlaw19_awake.f k).bind fun t529 => (if t529 = true then (if bt526.2.2 = 3 then (if bt526.1.toList = ([] : List UInt8) then (some (!bt526.2.1)) else (none)) else (none)) else (none))) else ((pollardlaw19_awake.f k).bind fun t530 => (if t530 = true then (if bt526.2.2 = 0 then (if bt526.2.1 = true then (some (bt526.1.toList == (xs m ++ (⟨#[121]⟩ : ByteArray)).toList)) else (none)) else (none)) else (none))))) R) :
    ∀ (n i : Nat), m - i = n → i ≤ m → Ev (fun k => pollardlaw19_MergeMuch.l0 k (m : Int) (xs i) (i : Int)) R := by
  intro n
  induction n with
  | zero =>
    intro i hn hi
    obtain rfl : i = m := by omega
    have hz := xs_size i
    refine Ev.step (fun k => ?_) h
    simp only [pollardlaw19_MergeMuch.l0]
    rw [if_neg (by omega), if_pos (by omega)]
  | succ n ih =>
    intro i hn hi
    have hz := xs_size i
    refine Ev.step (fun k => ?_) (ih (i + 1) (by omega) (by omega))
    simp only [pollardlaw19_MergeMuch.l0]
    rw [if_pos (by omega), if_pos (by omega), xs_next, w64s (by omega)]

theorem MergeMuch : ∀ (a0 : Int), (Lit.int .i64 a0).wf = true → ∃ k, pollardlaw19_MergeMuch.f k a0 = some true := by
  intro n hn
  refine Ev.rounds (g := fun k => pollardlaw19_MergeMuch.f k n) ?_
  unfold pollardlaw19_MergeMuch.f
  obtain ⟨m, hm1, hm2, h⟩ : ∃ m : Nat, 398 ≤ m ∧ m ≤ 401 ∧ wrap64 (398 + Go.bits .and .i64 n 3) = (m : Int) := by
    have h : Go.bits .and .i64 n 3 = n % 4 := and_low 2 (by decide) n
    refine ⟨(398 + n % 4).toNat, by omega, by omega, ?_⟩
    rw [h, w64 (by omega) (by omega)]
    omega
  rw [h]
  have e0 : (⟨#[]⟩ : ByteArray) = xs 0 := rfl
  rw [e0]
  have hz := xs_size m
  have hz2 : (xs m ++ (⟨#[121]⟩ : ByteArray)).size = (xs m).size + 1 := ByteArray.size_append
  have hw : wrap64 ((m : Int) + 1) = ((m + 1 : Nat) : Int) := w64s (by omega)
  have l1 := lines_xs m
  have l2 := lines_xsy m
  refine much_l0 m (by omega) ?_ m 0 (by omega) (by omega)
  rw [hw]
  by_cases hk : ((m + 1 : Nat) : Int) > 400
  · have e1 := texts_over (xs m) (xs m ++ (⟨#[121]⟩ : ByteArray)) (xs m) (by omega) (by omega) (by omega) (by omega) (by omega) (.inr (by omega))
    refine Ev.bind e1 ?_
    refine Ev.congr (fun k => if_pos hk) ?_
    refine Ev.bind awake19 ?_
    refine Ev.congr (fun k => ?_) (Ev.now true)
    rw [if_pos rfl, if_pos rfl, if_pos toList_nil]
    rfl
  · have e1 := prog_texts (xs m) (xs m ++ (⟨#[121]⟩ : ByteArray)) (xs m) (by omega) (by omega) (by omega) (by omega) (by omega) (by omega)
    rw [txt_left, lines_join] at e1
    replace e1 : Ev (fun k => merge_Texts.f k (xs m) (xs m ++ (⟨#[121]⟩ : ByteArray)) (xs m)) (xs m ++ (⟨#[121]⟩ : ByteArray), true, 0) := e1
    refine Ev.bind e1 ?_
    refine Ev.congr (fun k => if_neg hk) ?_
    refine Ev.bind awake19 ?_
    refine Ev.congr (fun k => ?_) (Ev.now true)
    rw [if_pos rfl, if_pos rfl, if_pos rfl]
    exact congrArg some (beq_self_eq_true _)
end Go.Proofs.YtfkajhppdeidjaaDoor.Pure
