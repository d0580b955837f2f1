import Derived.Test.YtflogdjehghkpaaDoorMx8
import Derived.Test.YtflogdjehghkpaaDoorPl18d
namespace Go.Proofs.YtflogdjehghkpaaDoor.Pure
set_option linter.unusedVariables false
open Go.RowKit Go.Proofs.YtflogdjehghkpaaDoor.M Go.Proofs.YtflogdjehghkpaaDoorW.PrintWords Go.Proofs.YtflogdjehghkpaaDoorW.PrintLast Go.Proofs.YtflogdjehghkpaaDoor.Pl

theorem pairs_l0 (L : List (Int × Int)) (hL : L.length ≤ 1000000) : ∀ (n i : Nat), L.length - i = n → i ≤ L.length →
    Ev (fun k => pollardlaw18_DiffPairs.l0 k (L.map (fun x => (⟨x.1, x.2⟩ : S35))) (L.map (fun x => (⟨x.1, x.2⟩ : S34))) (i : Int)) true := by
  intro n
  induction n with
  | zero =>
    intro i hn hi
    refine Ev.step (f := fun _ => some true) (fun k => ?_) (Ev.now _)
    simp only [pollardlaw18_DiffPairs.l0, List.length_map]
    rw [if_neg (by omega)]
  | succ n ih =>
    intro i hn hi
    have hlt : i < L.length := by omega
    have h1 : rd_T35 (L.map (fun x => (⟨x.1, x.2⟩ : S35))) (i : Int) = ⟨(L[i]'hlt).1, (L[i]'hlt).2⟩ := by
      unfold rd_T35
      rw [Int.toNat_natCast, List.getD, List.getElem?_eq_getElem (by rw [List.length_map]; exact hlt), Option.getD_some, List.getElem_map]
    have h2 : rd_T34 (L.map (fun x => (⟨x.1, x.2⟩ : S34))) (i : Int) = ⟨(L[i]'hlt).1, (L[i]'hlt).2⟩ := by
      unfold rd_T34
      rw [Int.toNat_natCast, List.getD, List.getElem?_eq_getElem (by rw [List.length_map]; exact hlt), Option.getD_some, List.getElem_map]
    refine Ev.step (f := fun k => pollardlaw18_DiffPairs.l0 k (L.map (fun x => (⟨x.1, x.2⟩ : S35))) (L.map (fun x => (⟨x.1, x.2⟩ : S34))) ((i + 1 : Nat) : Int)) (fun k => ?_) (ih (i + 1) (by omega) (by omega))
    simp only [pollardlaw18_DiffPairs.l0, List.length_map]
    rw [if_pos (by omega), if_pos (by omega), if_pos (by omega), h1, h2, if_neg (by simp), w64s (by omega)]

theorem DiffPairs : ∀ (l0 : List ByteArray) (l1 : List ByteArray), l0.length * Tryd.prog.bytesOf 9 ≤ 140737488351232 → (∀ x ∈ l0, x.size ≤ 140737488351232) → l1.length * Tryd.prog.bytesOf 9 ≤ 140737488351232 → (∀ x ∈ l1, x.size ≤ 140737488351232) → ∃ k, pollardlaw18_DiffPairs.f k l0 l1 = some true := by
  intro l0 l1 _ _ _ _
  obtain ⟨a, hca, ha⟩ := cut18 l0
  obtain ⟨b, hcb, hb⟩ := cut18 l1
  have hM := few18 ha hb
  refine Ev.rounds (g := fun k => pollardlaw18_DiffPairs.f k l0 l1) ?_
  unfold pollardlaw18_DiffPairs.f
  rw [hca, hcb]
  refine Ev.congr (fun k => (Option.bind_some _ _).trans (Option.bind_some _ _)) ?_
  refine Ev.bind (prog_pairs hM (by omega) (by omega) (by omega) (by omega)) ?_
  refine Ev.bind (ref_pairs hM (by omega) (by omega)) ?_
  refine Ev.bind awake18' ?_
  obtain ⟨L, hL⟩ : ∃ L, prs a b (a.length + b.length + 1) 0 0 = L := ⟨_, rfl⟩
  rw [hL]
  have hlen : L.length ≤ 30 := by
    have h1 := prs_length a b (a.length + b.length + 1) 0 0 (by omega)
    have h2 := cm_range (a := a) (b := b) 0 0
    rw [hL] at h1
    omega
  refine Ev.congr (f := fun k => pollardlaw18_DiffPairs.j0 k (L.map (fun x => (⟨x.1, x.2⟩ : S35))) (L.map (fun x => (⟨x.1, x.2⟩ : S34))) false) (fun k => ?_) ?_
  · rw [if_pos rfl, if_pos rfl, List.length_map, List.length_map, bne_self_eq_false]
  refine Ev.step (f := fun k => pollardlaw18_DiffPairs.l0 k (L.map (fun x => (⟨x.1, x.2⟩ : S35))) (L.map (fun x => (⟨x.1, x.2⟩ : S34))) ((0 : Nat) : Int)) (fun k => ?_) (pairs_l0 L (by omega) L.length 0 (by omega) (by omega))
  simp only [pollardlaw18_DiffPairs.j0]
  rw [if_neg (by simp)]
  rfl
end Go.Proofs.YtflogdjehghkpaaDoor.Pure
