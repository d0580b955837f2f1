/- A tree's bytes: read as the document reads them, and the same again. -/
import Derived.Test.YtopdlgdacbonpaaPl06c
import Derived.Test.YtopdlgdacbonpaaMx3
import Derived.Test.YtopdlgdacbonpaaMx4
import Derived.Test.YtopdlgdacbonpaaMx7
import Derived.Test.YtopdlgdacbonpaaMx8
import Derived.Test.YtopdlgdacbonpaaMx5
namespace Go.Proofs.Ytopdlgdacbonpaa.Pl
set_option linter.unusedVariables false
set_option linter.unusedSimpArgs false
open Go.RowKit Go.Proofs.Ytopdlgdacbonpaa.M Go.Proofs.YtopdlgdacbonpaaW.PrintWords Go.Proofs.YtopdlgdacbonpaaW.PrintLast

/-- All entries' bytes. -/
def lines : List (S36) → List UInt8
  | [] => []
  | x :: l => line x ++ lines l

theorem lines_append (a b : List (S36)) : lines (a ++ b) = lines a ++ lines b := by
  induction a with
  | nil => rfl
  | cons x a ih =>
    simp only [List.cons_append, lines]
    rw [ih, List.append_assoc]

/-- The reading of both, round for round. -/
theorem reads : ∀ (n : Nat) (s : ByteArray) (acc : List (S36)), s.size ≤ n → s.size ≤ 1000000 → acc.length ≤ 256 → Small acc →
    ∃ l e, Ev (fun k => tree_Decode.l0 k s acc) (l, e) ∧ Ev (fun k => pollardref06_Get.l0 k s (acc.map cv)) (l.map cv, e) ∧ l.length ≤ 256 ∧ (e = 0 → lines l = lines acc ++ s.toList ∧ ∀ x ∈ l, Good x) := by
  intro n
  induction n with
  | zero =>
    intro s acc hn hs ha hsm
    have h0 : s.toList = [] := size_zero.mpr (by omega)
    have tc := tcheck acc hsm
    have rc := rcheck acc hsm
    by_cases hc : chkAll acc = 0
    · refine ⟨acc, 0, ?_, ?_, ha, fun _ => ⟨by rw [h0, List.append_nil], ?_⟩⟩
      · refine Ev.step (f := fun k => (tree_Check.f k acc).bind fun t120 => (if t120 = 0 then (some (acc, 0)) else (some (([] : List (S36)), t120)))) (fun k => ?_) (Ev.bind tc ?_)
        · simp only [tree_Decode.l0]
          rw [if_pos h0]
        · exact Ev.congr (fun k => if_pos hc) (Ev.now _)
      · refine Ev.step (f := fun k => (pollardref06_Check.f k (acc.map cv)).bind fun t120 => (if t120 = 0 then (some (acc.map cv, 0)) else (some (([] : List (S40)), t120)))) (fun k => ?_) (Ev.bind rc ?_)
        · simp only [pollardref06_Get.l0]
          rw [if_neg (by omega)]
        · exact Ev.congr (fun k => if_pos hc) (Ev.now _)
      · unfold chkAll at hc
        rw [if_neg (by omega)] at hc
        exact chk_good acc none hc
    · refine ⟨[], chkAll acc, ?_, ?_, by simp, fun h => absurd h hc⟩
      · refine Ev.step (f := fun k => (tree_Check.f k acc).bind fun t120 => (if t120 = 0 then (some (acc, 0)) else (some (([] : List (S36)), t120)))) (fun k => ?_) (Ev.bind tc ?_)
        · simp only [tree_Decode.l0]
          rw [if_pos h0]
        · exact Ev.congr (fun k => if_neg hc) (Ev.now _)
      · refine Ev.step (f := fun k => (pollardref06_Check.f k (acc.map cv)).bind fun t120 => (if t120 = 0 then (some (acc.map cv, 0)) else (some (([] : List (S40)), t120)))) (fun k => ?_) (Ev.bind rc ?_)
        · simp only [pollardref06_Get.l0]
          rw [if_neg (by omega)]
        · exact Ev.congr (fun k => if_neg hc) (Ev.now _)
  | succ n ih =>
    intro s acc hn hs ha hsm
    by_cases hz : s.size = 0
    · exact ih s acc (by omega) hs ha hsm
    have h0 : ¬ s.toList = [] := fun h => hz (size_zero.mp h)
    have te := tentry s (by omega)
    have rs := rstep s (by omega) (by omega) (acc.map cv) (by rw [List.length_map]; exact ha)
    have ts : ∀ v, (match ent s with
      | .bad e => v = ([], e)
      | .ok x r => if acc.length + 1 > 256 then v = ([], 3) else Ev (fun k => tree_Decode.l0 k r (acc ++ [x])) v) → Ev (fun k => tree_Decode.l0 k s acc) v := by
      intro v hv
      refine Ev.step (f := fun k => (tree_entry.f k s).bind fun bt121 => (if bt121.2.2.2.2 = 0 then (if acc.length < 3518437208883 then ((some (acc ++ [(⟨bt121.1, bt121.2.1, bt121.2.2.1⟩ : S36)] : List (S36))).bind fun y127 => (if (y127.length : Int) > 256 then (some (([] : List (S36)), 3)) else (tree_Decode.l0 k bt121.2.2.2.1 y127))) else (none)) else (some (([] : List (S36)), bt121.2.2.2.2)))) (fun k => ?_) (Ev.bind te ?_)
      · simp only [tree_Decode.l0]
        rw [if_neg h0]
      · cases he : ent s with
        | bad e =>
          rw [he] at hv
          simp only at hv
          rw [hv]
          unfold entVal
          have hne : e ≠ 0 := by
            unfold ent at he
            split at he
            · injection he
              omega
            · split at he
              · injection he
                omega
              · cases he
          exact Ev.congr (fun k => if_neg hne) (Ev.now _)
        | ok x r =>
          rw [he] at hv
          simp only at hv
          unfold entVal
          refine Ev.congr (f := fun k => if acc.length + 1 > 256 then some ([], 3) else tree_Decode.l0 k r (acc ++ [x])) (fun k => ?_) ?_
          · rw [if_pos rfl, if_pos (by omega), Option.bind_some, List.length_append]
            by_cases c : acc.length + 1 > 256
            · rw [if_pos c, if_pos (by simp only [List.length_cons, List.length_nil]; omega)]
            · rw [if_neg c, if_neg (by simp only [List.length_cons, List.length_nil]; omega)]
          · by_cases c : acc.length + 1 > 256
            · rw [if_pos c] at hv
              rw [hv]
              exact Ev.congr (fun k => if_pos c) (Ev.now _)
            · rw [if_neg c] at hv
              exact Ev.congr (fun k => if_neg c) hv
    cases he : ent s with
    | bad e =>
      refine ⟨[], e, ts _ (by rw [he]), rs _ (by rw [he]; rfl), by simp, fun h => ?_⟩
      exfalso
      unfold ent at he
      split at he
      · injection he
        omega
      · split at he
        · injection he
          omega
        · cases he
    | ok x r =>
      by_cases c : acc.length + 1 > 256
      · refine ⟨[], 3, ts _ ?_, rs _ ?_, by simp, fun h => by omega⟩
        · rw [he]
          exact (if_pos c).mpr rfl
        · rw [he, List.length_map]
          exact (if_pos c).mpr rfl
      · obtain ⟨k1, k2, k3, k4, k5, k6⟩ := ent_ok he
        obtain ⟨l, e, i1, i2, i4, i3⟩ := ih r (acc ++ [x]) (by omega) (by omega) (by rw [List.length_append]; simp only [List.length_cons, List.length_nil]; omega) (by
          intro y hy
          rcases List.mem_append.mp hy with hy | hy
          · exact hsm y hy
          · rw [List.mem_singleton.mp hy]
            omega)
        refine ⟨l, e, ts _ ?_, rs _ ?_, i4, fun h => ?_⟩
        · rw [he]
          exact (if_neg c).mpr i1
        · rw [he, List.length_map]
          rw [List.map_append] at i2
          exact (if_neg c).mpr i2
        · obtain ⟨j1, j3⟩ := i3 h
          refine ⟨?_, j3⟩
          rw [j1, lines_append, k1, List.append_assoc]
          congr 1
          simp only [lines]
          rw [List.append_nil]

theorem put_line (x : S36) (h : 1 ≤ x.f1 ∧ x.f1 ≤ 3) : ∃ t, pollardref06_Put.line (cv x) = some t ∧ t.toList = line x := by
  unfold pollardref06_Put.line
  have e : (cv x).f1 = x.f1 := rfl
  rw [e, refmode _ h]
  refine ⟨_, rfl, ?_⟩
  unfold line cv
  rw [toList_append, toList_append, toList_append, toList_append, toList_lit, toList_eq ⟨#[32]⟩, toList_eq ⟨#[0]⟩]
  simp

theorem put_go : ∀ (l : List (S36)) (s : ByteArray), (∀ x ∈ l, 1 ≤ x.f1 ∧ x.f1 ≤ 3) → s.size + (lines l).length ≤ 1000000 → ∃ t, pollardref06_Put.go (l.map cv) s = some t ∧ t.toList = s.toList ++ lines l
  | [], s, _, _ => ⟨s, rfl, by simp [lines]⟩
  | x :: l, s, hm, hs => by
    obtain ⟨t, h1, h2⟩ := put_line x (hm x (by simp))
    simp only [lines, List.length_append] at hs
    have hsz : (s ++ t).size + (lines l).length ≤ 1000000 := by
      rw [ByteArray.size_append, ← toList_length t, h2]
      omega
    obtain ⟨u, h3, h4⟩ := put_go l (s ++ t) (fun y hy => hm y (by simp [hy])) hsz
    refine ⟨u, ?_, ?_⟩
    · simp only [List.map_cons, pollardref06_Put.go]
      rw [h1, Option.bind_some, if_pos (by rw [← toList_length t, h2]; omega)]
      exact h3
    · rw [h4, toList_append, h2, List.append_assoc]
      rfl

/-- The document's bytes of entries. -/
theorem put_eq (l : List (S36)) (hm : ∀ x ∈ l, 1 ≤ x.f1 ∧ x.f1 ≤ 3) (hs : (lines l).length ≤ 1000000) : ∃ t, pollardref06_Put.f (l.map cv) = some t ∧ t.toList = lines l := by
  obtain ⟨t, h1, h2⟩ := put_go l ⟨#[]⟩ hm (by
    have : (⟨#[]⟩ : ByteArray).size = 0 := rfl
    omega)
  refine ⟨t, h1, ?_⟩
  rw [h2, toList_nil]
  rfl
end Go.Proofs.Ytopdlgdacbonpaa.Pl
