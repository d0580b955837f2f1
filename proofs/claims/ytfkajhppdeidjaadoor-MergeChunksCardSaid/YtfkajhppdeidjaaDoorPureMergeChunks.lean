/- Three texts are cut into the document's chunks. Conditions: none. -/
import Derived.Test.YtfkajhppdeidjaaDoorMx15
import Derived.Test.YtfkajhppdeidjaaDoorPl19c
import Derived.Test.YtfkajhppdeidjaaDoorPl19a
import Derived.Test.YtfkajhppdeidjaaDoorPlCut
namespace Go.Proofs.YtfkajhppdeidjaaDoor.Pure
set_option linter.unusedVariables false
open Go.RowKit Go.Proofs.YtfkajhppdeidjaaDoor.M Go.Proofs.YtfkajhppdeidjaaDoorW.PrintWords Go.Proofs.YtfkajhppdeidjaaDoorW.PrintLast Go.Proofs.YtfkajhppdeidjaaDoor.Pl

theorem rdC (L : List Chk) (i : Nat) (h : i < L.length) : rd_T32 (L.map asP) (i : Int) = asP (L[i]'h) := by
  unfold rd_T32
  rw [Int.toNat_natCast, List.getD, List.getElem?_eq_getElem (by rw [List.length_map]; exact h), Option.getD_some, List.getElem_map]
theorem rdD (L : List Chk) (i : Nat) (h : i < L.length) : rd_T33 (L.map asR) (i : Int) = asR (L[i]'h) := by
  unfold rd_T33
  rw [Int.toNat_natCast, List.getD, List.getElem?_eq_getElem (by rw [List.length_map]; exact h), Option.getD_some, List.getElem_map]
theorem chs_small (B O T : List ByteArray) (p q : Nat → Int) : ∀ f o a b, (chs B O T p q f o a b).length ≤ f ∧ ∀ c ∈ chs B O T p q f o a b, c.2.1.length ≤ B.length ∧ c.2.2.1.length ≤ O.length ∧ c.2.2.2.length ≤ T.length
  | 0, o, a, b => ⟨Nat.le_refl _, fun c h => (by cases h)⟩
  | f + 1, o, a, b => by
    rw [chs]
    by_cases hc : o < B.length ∨ a < O.length ∨ b < T.length
    · rw [if_pos hc]
      by_cases hn : 0 < gn B p q o a b
      · rw [if_pos hn]
        obtain ⟨h1, h2⟩ := chs_small B O T p q f (o + gn B p q o a b) (a + gn B p q o a b) (b + gn B p q o a b)
        refine ⟨by rw [List.length_cons]; omega, fun c h => ?_⟩
        rcases List.mem_cons.mp h with e | h
        · rw [e]; exact ⟨seg_length _ _ _, seg_length _ _ _, seg_length _ _ _⟩
        · exact h2 c h
      · rw [if_neg hn]
        obtain ⟨h1, h2⟩ := chs_small B O T p q f (gk B p q o) (gi B O p q o) (gj B T p q o)
        refine ⟨by rw [List.length_cons]; omega, fun c h => ?_⟩
        rcases List.mem_cons.mp h with e | h
        · rw [e]; exact ⟨seg_length _ _ _, seg_length _ _ _, seg_length _ _ _⟩
        · exact h2 c h
    · rw [if_neg hc]
      exact ⟨Nat.zero_le _, fun c h => (by cases h)⟩
theorem chunks_l0 (L : List Chk) (hL : L.length ≤ 1000) (hs : ∀ c ∈ L, c.2.1.length ≤ 1000 ∧ c.2.2.1.length ≤ 1000 ∧ c.2.2.2.length ≤ 1000) : ∀ (n i : Nat), L.length - i = n → i ≤ L.length →
    Ev (fun k => pollardlaw19_MergeChunks.l0 k (L.map asP) (L.map asR) (i : Int)) true := by
  intro n
  induction n with
  | zero =>
    intro i hn hi
    refine Ev.step (f := fun _ => some true) (fun k => ?_) (Ev.now _)
    simp only [pollardlaw19_MergeChunks.l0, List.length_map]
    rw [if_neg (by omega)]
  | succ n ih =>
    intro i hn hi
    have hlt : i < L.length := by omega
    obtain ⟨c, hc⟩ : ∃ c, L[i]'hlt = c := ⟨_, rfl⟩
    have h1 := rdC L i hlt
    have h2 := rdD L i hlt
    rw [hc] at h1 h2
    obtain ⟨z0, z1, z2⟩ := hs c (hc ▸ List.getElem_mem hlt)
    have s0 := same_f c.2.1 c.2.1 (by omega)
    have s1 := same_f c.2.2.1 c.2.2.1 (by omega)
    have s2 := same_f c.2.2.2 c.2.2.2 (by omega)
    rw [decide_eq_true rfl] at s0 s1 s2
    refine ev_to ⟨fun k => (pollardref19_Same.f k (asP c).f1 (asR c).f1).bind fun t381 => (if t381 = true then ((pollardref19_Same.f k (asP c).f2 (asR c).f2).bind fun t384 => (if t384 = true then ((pollardref19_Same.f k (asP c).f3 (asR c).f3).bind fun t387 => (if t387 = true then (pollardlaw19_MergeChunks.l0 k (L.map asP) (L.map asR) ((i + 1 : Nat) : Int)) else (none))) else (none))) else (none)), fun k => ?_, ?_⟩
    · simp only [pollardlaw19_MergeChunks.l0, List.length_map]
      rw [if_pos (by omega), if_pos (by omega), if_pos (by omega), h1, h2, if_pos (show (asP c).f0 = (asR c).f0 from rfl), w64s (by omega)]
    · refine Ev.bind (a := true) s0 ?_
      refine Ev.congr (fun k => if_pos rfl) ?_
      refine Ev.bind (a := true) s1 ?_
      refine Ev.congr (fun k => if_pos rfl) ?_
      refine Ev.bind (a := true) s2 ?_
      refine Ev.congr (fun k => if_pos rfl) ?_
      exact ih (i + 1) (by omega) (by omega)

theorem MergeChunks : ∀ (l0 : List ByteArray) (l1 : List ByteArray) (l2 : List ByteArray), l0.length * Tryd.prog.bytesOf 9 ≤ 140737488351232 → (∀ x ∈ l0, x.size ≤ 140737488351232) → l1.length * Tryd.prog.bytesOf 9 ≤ 140737488351232 → (∀ x ∈ l1, x.size ≤ 140737488351232) → l2.length * Tryd.prog.bytesOf 9 ≤ 140737488351232 → (∀ x ∈ l2, x.size ≤ 140737488351232) → ∃ k, pollardlaw19_MergeChunks.f k l0 l1 l2 = some true := by
  intro l0 l1 l2 _ _ _ _ _ _
  obtain ⟨x, cx, hx⟩ := cut18 l0
  obtain ⟨y, cy, hy⟩ := cut18 l1
  obtain ⟨z, cz, hz⟩ := cut18 l2
  have q1 := prog_chunks x y z (by omega) (by omega) (by omega)
  have q2 := ref_chunks x y z (by omega) (by omega) (by omega)
  obtain ⟨f1, f2⟩ := chs_small x y z (fun k => pt (prs0 x y) (k : Int)) (fun k => pt (prs0 x z) (k : Int)) (x.length + y.length + z.length + 1) 0 0 0
  have hL : (chunks x y z).length ≤ 1000 := Nat.le_trans f1 (by omega)
  have hs : ∀ d ∈ chunks x y z, d.2.1.length ≤ 1000 ∧ d.2.2.1.length ≤ 1000 ∧ d.2.2.2.length ≤ 1000 := fun d hd => by
    obtain ⟨h0, h1, h2⟩ := f2 d hd
    omega
  generalize chunks x y z = L at *
  refine Ev.rounds (g := fun k => pollardlaw19_MergeChunks.f k l0 l1 l2) ?_
  unfold pollardlaw19_MergeChunks.f
  rw [cx, cy, cz]
  refine Ev.congr (fun k => (Option.bind_some _ _).trans ((Option.bind_some _ _).trans (Option.bind_some _ _))) ?_
  refine Ev.bind q1 ?_
  refine Ev.congr (fun k => (Option.bind_some _ _).trans ((Option.bind_some _ _).trans (Option.bind_some _ _))) ?_
  refine Ev.bind q2 ?_
  refine Ev.bind awake19 ?_
  refine Ev.congr (f := fun k => pollardlaw19_MergeChunks.j0 k (L.map asP) (L.map asR) false) (fun k => ?_) ?_
  · rw [if_pos rfl, if_pos rfl]
    simp only [List.length_map, bne_self_eq_false]
  refine ev_to ⟨fun k => pollardlaw19_MergeChunks.l0 k (L.map asP) (L.map asR) ((0 : Nat) : Int), fun k => ?_, chunks_l0 L (by omega) hs L.length 0 (by omega) (by omega)⟩
  simp only [pollardlaw19_MergeChunks.j0]
  rw [if_neg (by simp)]
  rfl
end Go.Proofs.YtfkajhppdeidjaaDoor.Pure
