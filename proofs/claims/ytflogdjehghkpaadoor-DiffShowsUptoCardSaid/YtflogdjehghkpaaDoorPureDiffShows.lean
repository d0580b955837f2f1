/- What makes one text of another one is told as the document says. Conditions: what comes in is of a bulk of 1048576 at most (the second form). -/
import Derived.Test.YtflogdjehghkpaaDoorMx11
import Derived.Test.YtflogdjehghkpaaDoorPl18s
namespace Go.Proofs.YtflogdjehghkpaaDoor.Pure
set_option linter.unusedVariables false
open Go.RowKit Go.Proofs.YtflogdjehghkpaaDoor.M Go.Proofs.YtflogdjehghkpaaDoorW.PrintWords Go.Proofs.YtflogdjehghkpaaDoorW.PrintLast Go.Proofs.YtflogdjehghkpaaDoor.Pl

theorem DiffShows : ∀ (l0 : List ByteArray) (l1 : List ByteArray), l0.length * Tryd.prog.bytesOf 9 ≤ 140737488351232 → (∀ x ∈ l0, x.size ≤ 140737488351232) → l1.length * Tryd.prog.bytesOf 9 ≤ 140737488351232 → (∀ x ∈ l1, x.size ≤ 140737488351232) → (l0.map (·.size)).sum ≤ 1048576 → (l1.map (·.size)).sum ≤ 1048576 → ∃ k, pollardlaw18_DiffShows.f k l0 l1 = some true := by
  intro l0 l1 _ _ _ _ hz0 hz1
  obtain ⟨a, ca, ha, za⟩ := cut18s l0
  obtain ⟨b, cb, hb, zb⟩ := cut18s l1
  have hM := few18 ha hb
  have sa := szr_le a
  have sb := szr_le b
  obtain ⟨P, hP⟩ : ∃ P, prs a b (a.length + b.length + 1) 0 0 = P := ⟨_, rfl⟩
  have hR := prs_Rs a b (a.length + b.length + 1) 0 0 (Nat.zero_le _) (Nat.zero_le _)
  rw [hP] at hR
  have hlen : P.length ≤ 30 := by
    have h1 := prs_length a b (a.length + b.length + 1) 0 0 (by omega)
    have h2 := cm_range (a := a) (b := b) 0 0
    rw [hP] at h1
    omega
  have e0 : (⟨#[]⟩ : ByteArray).size = 0 := rfl
  have hz : (⟨#[]⟩ : ByteArray).size + szr (a.drop 0) + szr (b.drop 0) ≤ 100000000 := by
    rw [List.drop_zero, List.drop_zero, e0]
    omega
  have p1 : Ev (fun k => diff_Show.f k a b) (shw a b P 0 0 (⟨#[]⟩ : ByteArray), 0) := by
    have h := prog_pairs hM (by omega) (by omega) (show a.length ≤ 400 by omega) (show b.length ≤ 400 by omega)
    rw [hP] at h
    unfold diff_Show.f
    refine Ev.bind h ?_
    refine Ev.congr (fun k => ?_) (Ev.now _)
    rw [if_pos rfl, if_pos ⟨by rw [List.length_map]; omega, by omega, by omega⟩]
    have hg := put_shw a b P 0 0 (⟨#[]⟩ : ByteArray) hR hz
    have hg' : diff_Show.go a b (P.map (fun x => (⟨x.1, x.2⟩ : S35)) ++ [(⟨(a.length : Int), (b.length : Int)⟩ : S35)]) 0 0 (⟨#[]⟩ : ByteArray) = some (shw a b P 0 0 (⟨#[]⟩ : ByteArray)) := hg
    rw [hg']
    rfl
  have p2 : Ev (fun k => pollardref18_Show.f k a b) (shw a b P 0 0 (⟨#[]⟩ : ByteArray)) := by
    have h := ref_pairs (a := a) (b := b) hM (by omega) (by omega)
    rw [hP] at h
    unfold pollardref18_Show.f
    refine Ev.bind h ?_
    have hg := ref_shw a b (by omega) (by omega) P (by omega) P.length 0 0 0 (⟨#[]⟩ : ByteArray) (by omega) (by omega) hR hz
    rw [List.drop_zero] at hg
    exact hg
  refine Ev.rounds (g := fun k => pollardlaw18_DiffShows.f k l0 l1) ?_
  unfold pollardlaw18_DiffShows.f
  rw [ca, cb]
  refine Ev.congr (fun k => (Option.bind_some _ _).trans (Option.bind_some _ _)) ?_
  refine Ev.bind p1 ?_
  refine Ev.bind awake18' ?_
  refine Ev.congr (fun k => (if_pos rfl).trans (if_pos rfl)) ?_
  refine Ev.bind p2 ?_
  refine Ev.congr (fun k => ?_) (Ev.now true)
  exact congrArg some (beq_self_eq_true _)
end Go.Proofs.YtflogdjehghkpaaDoor.Pure
