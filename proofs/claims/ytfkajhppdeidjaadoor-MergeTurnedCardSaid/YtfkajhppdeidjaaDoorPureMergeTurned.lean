/- The two texts may be exchanged, and each chunk is the other one's, turned. Conditions: none. -/
import Derived.Test.YtfkajhppdeidjaaDoorMx10
import Derived.Test.YtfkajhppdeidjaaDoorPl19e
import Derived.Test.YtfkajhppdeidjaaDoorPl19s
import Derived.Test.YtfkajhppdeidjaaDoorPlCut
namespace Go.Proofs.YtfkajhppdeidjaaDoor.Pure
set_option linter.unusedVariables false
open Go.RowKit Go.Proofs.YtfkajhppdeidjaaDoor.M Go.Proofs.YtfkajhppdeidjaaDoorW.PrintWords Go.Proofs.YtfkajhppdeidjaaDoorW.PrintLast Go.Proofs.YtfkajhppdeidjaaDoor.Pl

theorem rdC (L : List Chk) (i : Nat) (h : i < L.length) : rd_T32 (L.map asP) (i : Int) = asP (L[i]'h) := by
  unfold rd_T32
  rw [Int.toNat_natCast, List.getD, List.getElem?_eq_getElem (by rw [List.length_map]; exact h), Option.getD_some, List.getElem_map]
theorem turned_l0 (L : List Chk) (hL : L.length ≤ 1000) (hs : ∀ c ∈ L, c.2.2.1.length ≤ 1000 ∧ c.2.2.2.length ≤ 1000) : ∀ (n i : Nat), L.length - i = n → i ≤ L.length →
    Ev (fun k => pollardlaw19_MergeTurned.l0 k (L.map asP) ((L.map turn).map asP) (i : Int)) true := by
  intro n
  induction n with
  | zero =>
    intro i hn hi
    refine Ev.step (f := fun _ => some true) (fun k => ?_) (Ev.now _)
    simp only [pollardlaw19_MergeTurned.l0, List.length_map]
    rw [if_neg (by omega)]
  | succ n ih =>
    intro i hn hi
    have hlt : i < L.length := by omega
    obtain ⟨c, hc⟩ : ∃ c, L[i]'hlt = c := ⟨_, rfl⟩
    have h1 := rdC L i hlt
    rw [hc] at h1
    have h2 := rdC (L.map turn) i (by rw [List.length_map]; exact hlt)
    rw [List.getElem_map, hc] at h2
    obtain ⟨z1, z2⟩ := hs c (hc ▸ List.getElem_mem hlt)
    have j3 : Ev (fun k => pollardlaw19_MergeTurned.j3 k (L.map asP) ((L.map turn).map asP) (i : Int) (tk c.1)) true := by
      have s1 := same_f c.2.2.1 c.2.2.1 (by omega)
      have s2 := same_f c.2.2.2 c.2.2.2 (by omega)
      rw [decide_eq_true rfl] at s1 s2
      refine ev_to ⟨fun k => (pollardref19_Same.f k (asP c).f2 (asP (turn c)).f3).bind fun t510 => (if t510 = true then ((pollardref19_Same.f k (asP c).f3 (asP (turn c)).f2).bind fun t513 => (if t513 = true then (pollardlaw19_MergeTurned.l0 k (L.map asP) ((L.map turn).map asP) ((i + 1 : Nat) : Int)) else (none))) else (none)), fun k => ?_, ?_⟩
      · simp only [pollardlaw19_MergeTurned.j3, List.length_map]
        rw [if_pos (by omega), if_pos (by omega), h1, h2, if_pos (show (asP (turn c)).f0 = tk c.1 from rfl), if_pos (by omega), w64s (by omega)]
      · refine Ev.bind (a := true) s1 ?_
        refine Ev.congr (fun k => if_pos rfl) ?_
        refine Ev.bind (a := true) s2 ?_
        refine Ev.congr (fun k => if_pos rfl) ?_
        exact ih (i + 1) (by omega) (by omega)
    by_cases k2 : c.1 = 2
    · refine ev_to ⟨fun k => pollardlaw19_MergeTurned.j2 k (L.map asP) ((L.map turn).map asP) (i : Int) (asP c).f0 true, fun k => ?_, ev_to ⟨_, fun k => ?_, j3⟩⟩
      · simp only [pollardlaw19_MergeTurned.l0, List.length_map]
        rw [if_pos (by omega), if_pos (by omega), h1, if_pos (show (asP c).f0 = 2 from k2)]
      · simp only [pollardlaw19_MergeTurned.j2]
        have e : wrap64 (5 - (asP c).f0) = tk c.1 := by
          show wrap64 (5 - c.1) = _
          rw [k2]
          exact (w64 (by decide) (by decide)).trans (by decide)
        rw [if_pos (by trivial), e]
    · by_cases k3 : c.1 = 3
      · refine ev_to ⟨fun k => pollardlaw19_MergeTurned.j2 k (L.map asP) ((L.map turn).map asP) (i : Int) (asP c).f0 true, fun k => ?_, ev_to ⟨_, fun k => ?_, j3⟩⟩
        · simp only [pollardlaw19_MergeTurned.l0, List.length_map]
          rw [if_pos (by omega), if_pos (by omega), h1, if_neg (show ¬ (asP c).f0 = 2 from k2), show ((asP c).f0 == 3) = true from beq_iff_eq.mpr k3]
        · simp only [pollardlaw19_MergeTurned.j2]
          have e : wrap64 (5 - (asP c).f0) = tk c.1 := by
            show wrap64 (5 - c.1) = _
            rw [k3]
            exact (w64 (by decide) (by decide)).trans (by decide)
          rw [if_pos (by trivial), e]
      · refine ev_to ⟨fun k => pollardlaw19_MergeTurned.j2 k (L.map asP) ((L.map turn).map asP) (i : Int) (asP c).f0 false, fun k => ?_, ev_to ⟨_, fun k => ?_, j3⟩⟩
        · simp only [pollardlaw19_MergeTurned.l0, List.length_map]
          rw [if_pos (by omega), if_pos (by omega), h1, if_neg (show ¬ (asP c).f0 = 2 from k2), show ((asP c).f0 == 3) = false from beq_eq_false_iff_ne.mpr k3]
        · simp only [pollardlaw19_MergeTurned.j2]
          have e : (asP c).f0 = tk c.1 := by
            show c.1 = _
            unfold tk
            rw [if_neg k2, if_neg k3]
          rw [if_neg (by simp), e]

theorem MergeTurned : ∀ (l0 : List ByteArray) (l1 : List ByteArray) (l2 : List ByteArray), l0.length * Tryd.prog.bytesOf 9 ≤ 140737488351232 → (∀ x ∈ l0, x.size ≤ 140737488351232) → l1.length * Tryd.prog.bytesOf 9 ≤ 140737488351232 → (∀ x ∈ l1, x.size ≤ 140737488351232) → l2.length * Tryd.prog.bytesOf 9 ≤ 140737488351232 → (∀ x ∈ l2, x.size ≤ 140737488351232) → ∃ k, pollardlaw19_MergeTurned.f k l0 l1 l2 = some true := by
  intro l0 l1 l2 _ _ _ _ _ _
  obtain ⟨a, ha, la, ea⟩ := text_f l0
  obtain ⟨b, hb, lb, eb⟩ := text_f l1
  obtain ⟨c, hc, lc, ec⟩ := text_f l2
  obtain ⟨x, cx, hx⟩ := cut18 l0
  obtain ⟨y, cy, hy⟩ := cut18 l1
  obtain ⟨z, cz, hz⟩ := cut18 l2
  have p1 := prog_texts a b c (by omega) (by omega) (by omega) (by omega) (by omega) (by omega)
  have p2 := prog_texts a c b (by omega) (by omega) (by omega) (by omega) (by omega) (by omega)
  rw [chunks_turn, txt_turn _ (chunks_facts (lines a) (lines b) (lines c)).1] at p2
  have q1 := prog_chunks x y z (by omega) (by omega) (by omega)
  have q2 := prog_chunks x z y (by omega) (by omega) (by omega)
  rw [chunks_turn] at q2
  obtain ⟨f1, _, _, f4, f5, f6⟩ := chunks_facts x y z
  have hs : ∀ d ∈ chunks x y z, d.2.2.1.length ≤ 1000 ∧ d.2.2.2.length ≤ 1000 := fun d hd => by
    have h1 := len_flat (·.2.2.1) _ d hd
    have h2 := len_flat (·.2.2.2) _ d hd
    rw [f4] at h1
    rw [f5] at h2
    omega
  generalize chunks x y z = L at *
  generalize txt (chunks (lines a) (lines b) (lines c)) nilB = o at *
  have ho : (merge_Texts.out o).2.2 = 0 := by cases o <;> rfl
  refine Ev.rounds (g := fun k => pollardlaw19_MergeTurned.f k l0 l1 l2) ?_
  unfold pollardlaw19_MergeTurned.f
  rw [cx, cy, cz]
  refine Ev.bind ea ?_
  refine Ev.bind eb ?_
  refine Ev.bind ec ?_
  refine Ev.bind p1 ?_
  refine Ev.bind p2 ?_
  refine Ev.congr (fun k => (Option.bind_some _ _).trans ((Option.bind_some _ _).trans (Option.bind_some _ _))) ?_
  refine Ev.bind q1 ?_
  refine Ev.congr (fun k => (Option.bind_some _ _).trans ((Option.bind_some _ _).trans (Option.bind_some _ _))) ?_
  refine Ev.bind q2 ?_
  refine Ev.bind awake19 ?_
  refine Ev.congr (f := fun k => pollardlaw19_MergeTurned.j0 k (L.map asP) ((L.map turn).map asP) false) (fun k => ?_) ?_
  · rw [if_pos rfl, if_pos ho, if_pos ho, if_pos rfl, if_pos rfl, if_neg (by simp), if_pos rfl]
    simp only [List.length_map, bne_self_eq_false]
  refine ev_to ⟨fun k => pollardlaw19_MergeTurned.l0 k (L.map asP) ((L.map turn).map asP) ((0 : Nat) : Int), fun k => ?_, turned_l0 L (by omega) hs L.length 0 (by omega) (by omega)⟩
  simp only [pollardlaw19_MergeTurned.j0]
  rw [if_neg (by simp)]
  rfl
end Go.Proofs.YtfkajhppdeidjaaDoor.Pure
