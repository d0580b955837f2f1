import Derived.Test.YtflogdjehghkpaaDoorMx8
import Derived.Test.YtflogdjehghkpaaDoorPl18d
namespace Go.Proofs.YtflogdjehghkpaaDoor.Pure
set_option linter.unusedVariables false
open Go.RowKit Go.Proofs.YtflogdjehghkpaaDoor.M Go.Proofs.YtflogdjehghkpaaDoorW.PrintWords Go.Proofs.YtflogdjehghkpaaDoorW.PrintLast Go.Proofs.YtflogdjehghkpaaDoor.Pl

theorem most_l0 (a b : List ByteArray) (L : List (Int × Int)) (hL : L.length ≤ 1000000)
    (hR : ∀ (m : Nat) (x : Int × Int), L[m]? = some x → 0 ≤ x.1 ∧ 0 ≤ x.2 ∧ x.1 < a.length ∧ x.2 < b.length ∧ (rdOf ByteArray.empty a x.1).toList = (rdOf ByteArray.empty b x.2).toList ∧ ∀ y, L[m + 1]? = some y → x.1 < y.1 ∧ x.2 < y.2) : ∀ (n i : Nat), L.length - i = n → i ≤ L.length →
    Ev (fun k => pollardlaw18_DiffMost.l0 k a b (L.map (fun x => (⟨x.1, x.2⟩ : S35))) (i : Int)) true := by
  have hrd : ∀ (i : Nat) (hlt : i < L.length), rd_T35 (L.map (fun x => (⟨x.1, x.2⟩ : S35))) (i : Int) = ⟨(L[i]'hlt).1, (L[i]'hlt).2⟩ := by
    intro i hlt
    unfold rd_T35
    rw [Int.toNat_natCast, List.getD, List.getElem?_eq_getElem (by rw [List.length_map]; exact hlt), Option.getD_some, List.getElem_map]
  intro n
  induction n with
  | zero =>
    intro i hn hi
    refine Ev.step (f := fun _ => some true) (fun k => ?_) (Ev.now _)
    simp only [pollardlaw18_DiffMost.l0, List.length_map]
    rw [if_neg (by omega)]
  | succ n ih =>
    intro i hn hi
    have hlt : i < L.length := by omega
    obtain ⟨x, hx⟩ : ∃ x, L[i]'hlt = x := ⟨_, rfl⟩
    have h1 := hrd i hlt
    rw [hx] at h1
    obtain ⟨g1, g2, g3, g4, g5, g6⟩ := hR i x (by rw [List.getElem?_eq_getElem hlt, hx])
    refine Ev.step (f := fun k => pollardlaw18_DiffMost.l0 k a b (L.map (fun x => (⟨x.1, x.2⟩ : S35))) ((i + 1 : Nat) : Int)) (fun k => ?_) (ih (i + 1) (by omega) (by omega))
    simp only [pollardlaw18_DiffMost.l0, List.length_map]
    rw [h1]
    dsimp only
    rw [if_pos (by omega), if_pos (by omega), if_neg (by omega), if_neg (by omega), if_neg (by omega), if_neg (by omega), if_pos g1, if_pos g3, if_pos g2, if_pos g4, if_pos g5]
    cases i with
    | zero => rw [if_neg (by omega), w64s (by omega)]
    | succ i =>
      have hlt2 : i < L.length := by omega
      obtain ⟨y, hy⟩ : ∃ y, L[i]'hlt2 = y := ⟨_, rfl⟩
      have h2 := hrd i hlt2
      rw [hy] at h2
      obtain ⟨_, _, _, _, _, g7⟩ := hR i y (by rw [List.getElem?_eq_getElem hlt2, hy])
      obtain ⟨q1, q2⟩ := g7 x (by rw [List.getElem?_eq_getElem hlt, hx])
      have hw : wrap64 (((i + 1 : Nat) : Int) - 1) = (i : Int) := (w64 (by omega) (by omega)).trans (by omega)
      rw [hw, h2]
      dsimp only
      rw [if_pos (by omega), if_pos (by omega), if_pos (by omega), if_neg (by omega), if_neg (by omega), w64s (by omega)]

theorem DiffMost : ∀ (l0 : List ByteArray) (l1 : List ByteArray), l0.length * Tryd.prog.bytesOf 9 ≤ 140737488351232 → (∀ x ∈ l0, x.size ≤ 140737488351232) → l1.length * Tryd.prog.bytesOf 9 ≤ 140737488351232 → (∀ x ∈ l1, x.size ≤ 140737488351232) → ∃ k, pollardlaw18_DiffMost.f k l0 l1 = some true := by
  intro l0 l1 _ _ _ _
  obtain ⟨a, hca, ha⟩ := cut18 l0
  obtain ⟨b, hcb, hb⟩ := cut18 l1
  have hM := few18 ha hb
  obtain ⟨t, ht1, ht2⟩ := ref_common hM (by omega) (by omega)
  have hat := at_f hM ht1 (p := 0) (q := 0) (by omega) (by omega) (.inl (by omega))
  refine Ev.rounds (g := fun k => pollardlaw18_DiffMost.f k l0 l1) ?_
  unfold pollardlaw18_DiffMost.f
  rw [hca, hcb]
  refine Ev.congr (fun k => (Option.bind_some _ _).trans (Option.bind_some _ _)) ?_
  refine Ev.bind (prog_pairs hM (by omega) (by omega) (by omega) (by omega)) ?_
  refine Ev.bind awake18' ?_
  have hlen := prs_length a b (a.length + b.length + 1) 0 0 (by omega)
  have hrise := prs_rise a b (a.length + b.length + 1) 0 0
  obtain ⟨L, hL⟩ : ∃ L, prs a b (a.length + b.length + 1) 0 0 = L := ⟨_, rfl⟩
  rw [hL] at hlen hrise ⊢
  have h2 := cm_range (a := a) (b := b) 0 0
  refine Ev.congr (fun k => (if_pos rfl).trans (if_pos rfl)) ?_
  refine Ev.bind ht2 ?_
  refine Ev.congr (f := fun k => pollardlaw18_DiffMost.j0 k a b (L.map (fun x => (⟨x.1, x.2⟩ : S35))) false) (fun k => ?_) ?_
  · have hat' : pollardref18_Table_At.f ((b.length + 1 : Nat) : Int) t 0 0 = some (cm a b 0 0) := hat
    rw [hat', Option.bind_some, List.length_map, hlen, bne_self_eq_false]
  refine Ev.step (f := fun k => pollardlaw18_DiffMost.l0 k a b (L.map (fun x => (⟨x.1, x.2⟩ : S35))) ((0 : Nat) : Int)) (fun k => ?_) (most_l0 a b L (by omega) (fun m x hm => ?_) L.length 0 (by omega) (by omega))
  · simp only [pollardlaw18_DiffMost.j0]
    rw [if_neg (by simp)]
    rfl
  · obtain ⟨q1, q2, q3, q4, q5, q6⟩ := hrise m x hm
    exact ⟨by omega, by omega, q3, q4, q5, q6⟩
end Go.Proofs.YtflogdjehghkpaaDoor.Pure
