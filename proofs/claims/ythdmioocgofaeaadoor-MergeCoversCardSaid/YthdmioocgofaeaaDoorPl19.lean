/- Partners of lines, and three texts cut into chunks, in plain Lean. -/
import Derived.Test.YthdmioocgofaeaaDoorPl18c
import Derived.Test.YthdmioocgofaeaaDoorMx3
import Derived.Test.YthdmioocgofaeaaDoorMx4
namespace Go.Proofs.YthdmioocgofaeaaDoor.Pl
set_option linter.unusedVariables false
set_option linter.unusedSimpArgs false
open Go.RowKit Go.Proofs.YthdmioocgofaeaaDoor.M Go.Proofs.YthdmioocgofaeaaDoorW.PrintWords Go.Proofs.YthdmioocgofaeaaDoorW.PrintLast

/-! pairs that rise -/
theorem prs_mem (a b : List ByteArray) (k i j : Nat) (x : Int × Int) (hx : x ∈ prs a b k i j) : (i : Int) ≤ x.1 ∧ (j : Int) ≤ x.2 ∧ x.1 < a.length ∧ x.2 < b.length ∧ (rdOf ByteArray.empty a x.1).toList = (rdOf ByteArray.empty b x.2).toList := by
  obtain ⟨m, hm, he⟩ := List.mem_iff_getElem.mp hx
  obtain ⟨h1, h2, h3, h4, h5, _⟩ := prs_rise a b k i j m x (by rw [List.getElem?_eq_getElem hm, he])
  exact ⟨h1, h2, h3, h4, h5⟩
def Up (x y : Int × Int) : Prop := x.1 < y.1 ∧ x.2 < y.2
theorem prs_up (a b : List ByteArray) : ∀ k i j, (prs a b k i j).Pairwise Up
  | 0, i, j => List.Pairwise.nil
  | k + 1, i, j => by
    rw [prs]
    by_cases h : i < a.length ∧ j < b.length
    · rw [dif_pos h]
      by_cases e : (a[i]'h.1).toList = (b[j]'h.2).toList
      · rw [if_pos e]
        refine List.Pairwise.cons (fun y hy => ?_) (prs_up a b k (i + 1) (j + 1))
        obtain ⟨h1, h2, _⟩ := prs_mem a b k (i + 1) (j + 1) y hy
        exact ⟨by show (i : Int) < y.1; omega, by show (j : Int) < y.2; omega⟩
      · rw [if_neg e]
        by_cases g : cm a b i (j + 1) > cm a b (i + 1) j
        · rw [if_pos g]; exact prs_up a b k i (j + 1)
        · rw [if_neg g]; exact prs_up a b k (i + 1) j
    · rw [dif_neg h]; exact List.Pairwise.nil
/-- A line's partner; -1: none. -/
def pt : List (Int × Int) → Int → Int
  | [], _ => -1
  | x :: P, i => if x.1 = i then x.2 else pt P i
theorem pt_mem : ∀ (P : List (Int × Int)) (i : Int), 0 ≤ pt P i → (i, pt P i) ∈ P
  | [], i, h => by simp [pt] at h
  | x :: P, i, h => by
    rw [pt] at h ⊢
    by_cases e : x.1 = i
    · rw [if_pos e]
      rw [← e]
      exact List.mem_cons_self
    · rw [if_neg e] at h ⊢
      exact List.mem_cons_of_mem _ (pt_mem P i h)
theorem pt_far : ∀ (P : List (Int × Int)) (i : Int), (∀ x ∈ P, x.1 ≠ i) → pt P i = -1
  | [], i, h => rfl
  | x :: P, i, h => by
    rw [pt, if_neg (h x List.mem_cons_self)]
    exact pt_far P i (fun y hy => h y (List.mem_cons_of_mem _ hy))
theorem up_any : ∀ (P : List (Int × Int)), P.Pairwise Up → ∀ x ∈ P, ∀ y ∈ P, x = y ∨ Up x y ∨ Up y x
  | [], _, x, hx, _, _ => by cases hx
  | z :: P, h, x, hx, y, hy => by
    obtain ⟨h1, h2⟩ := List.pairwise_cons.mp h
    rcases List.mem_cons.mp hx with ex | hx'
    · rcases List.mem_cons.mp hy with ey | hy'
      · exact .inl (ex.trans ey.symm)
      · exact .inr (.inl (ex ▸ h1 y hy'))
    · rcases List.mem_cons.mp hy with ey | hy'
      · exact .inr (.inr (ey ▸ h1 x hx'))
      · exact up_any P h2 x hx' y hy'
/-- What partners are: lines' places in a text, rising, or -1. -/
structure Part (p : Nat → Int) (N M : Nat) : Prop where
  low : ∀ k, -1 ≤ p k
  off : ∀ k, N ≤ k → p k = -1
  top : ∀ k, p k < M
  up : ∀ k l, k < l → 0 ≤ p k → 0 ≤ p l → p k < p l
theorem pt_part (P : List (Int × Int)) (N M : Nat) (hu : P.Pairwise Up) (hP : ∀ x ∈ P, x.1 < N ∧ 0 ≤ x.2 ∧ x.2 < M) : Part (fun k => pt P (k : Int)) N M := by
  have hlow : ∀ (Q : List (Int × Int)) (i : Int), (∀ x ∈ Q, x.1 < N ∧ 0 ≤ x.2 ∧ x.2 < M) → -1 ≤ pt Q i ∧ pt Q i < M := by
    intro Q i
    induction Q with
    | nil => intro _; rw [pt]; omega
    | cons x Q ih =>
      intro h
      rw [pt]
      by_cases e : x.1 = i
      · rw [if_pos e]
        have := h x List.mem_cons_self
        omega
      · rw [if_neg e]
        exact ih (fun y hy => h y (List.mem_cons_of_mem _ hy))
  refine ⟨fun k => (hlow P k hP).1, fun k hk => pt_far P k (fun x hx e => by have := (hP x hx).1; omega), fun k => (hlow P k hP).2, fun k l hkl h1 h2 => ?_⟩
  have m1 := pt_mem P k h1
  have m2 := pt_mem P l h2
  rcases up_any P hu _ m1 _ m2 with h | h | h
  · have := congrArg Prod.fst h
    dsimp only at this
    omega
  · exact h.2
  · have h3 : (l : Int) < (k : Int) := h.1
    omega

/-! the program's partners -/
def upd : List Int → List (Int × Int) → List Int
  | X, [] => X
  | X, x :: L => upd (X.set x.1.toNat x.2) L
theorem upd_length : ∀ (L : List (Int × Int)) (X : List Int), (upd X L).length = X.length
  | [], X => rfl
  | x :: L, X => by rw [upd, upd_length L, List.length_set]
theorem upd_rd : ∀ (L : List (Int × Int)) (X : List Int), L.Pairwise Up → (∀ x ∈ L, 0 ≤ x.1 ∧ x.1 < X.length ∧ 0 ≤ x.2) → ∀ k : Nat, k < X.length → rd (upd X L) k = if 0 ≤ pt L k then pt L k else rd X k
  | [], X, _, _, k, _ => by
    rw [upd, pt, if_neg (by decide)]
  | x :: L, X, hu, hL, k, hk => by
    obtain ⟨h1, h2⟩ := List.pairwise_cons.mp hu
    obtain ⟨g1, g2, g3⟩ := hL x List.mem_cons_self
    rw [upd, upd_rd L _ h2 (fun y hy => by rw [List.length_set]; exact hL y (List.mem_cons_of_mem _ hy)) k (by rw [List.length_set]; exact hk), pt]
    by_cases e : x.1 = (k : Int)
    · rw [if_pos e, if_pos g3, pt_far L k (fun y hy e2 => by have := (h1 y hy).1; omega), if_neg (by decide), e]
      unfold rd
      rw [Int.toNat_natCast, List.getD, List.getElem?_set, if_pos rfl, if_pos hk]
      rfl
    · rw [if_neg e]
      have e3 : rd (X.set x.1.toNat x.2) (k : Int) = rd X (k : Int) := by
        unfold rd
        rw [Int.toNat_natCast, List.getD, List.getD, List.getElem?_set, if_neg (by omega)]
      rw [e3]
theorem rd66 (L : List (Int × Int)) (i : Nat) (hlt : i < L.length) : rd_T43 (L.map (fun x => (⟨x.1, x.2⟩ : S43))) (i : Int) = ⟨(L[i]'hlt).1, (L[i]'hlt).2⟩ := by
  unfold rd_T43
  rw [Int.toNat_natCast, List.getD, List.getElem?_eq_getElem (by rw [List.length_map]; exact hlt), Option.getD_some, List.getElem_map]
theorem part_l1 (L : List (Int × Int)) (N : Nat) (hl : L.length ≤ 1000000) (hL : ∀ x ∈ L, 0 ≤ x.1 ∧ x.1 < N ∧ 0 ≤ x.2) : ∀ (n i : Nat) (X : List Int), L.length - i = n → i ≤ L.length → X.length = N →
    Ev (fun k => merge_partners.l1 k X 0 (L.map (fun x => (⟨x.1, x.2⟩ : S43))) (L.length : Int) (i : Int)) (upd X (L.drop i), 0) := by
  intro n
  induction n with
  | zero =>
    intro i X hn hi hX
    rw [List.drop_eq_nil_of_le (by omega), upd]
    refine Ev.step (f := fun _ => some (X, 0)) (fun k => ?_) (Ev.now _)
    simp only [merge_partners.l1]
    rw [if_neg (by omega)]
  | succ n ih =>
    intro i X hn hi hX
    have hlt : i < L.length := by omega
    obtain ⟨x, hx⟩ : ∃ x, L[i]'hlt = x := ⟨_, rfl⟩
    obtain ⟨g1, g2, g3⟩ := hL x (hx ▸ List.getElem_mem hlt)
    have h1 := rd66 L i hlt
    rw [hx] at h1
    rw [List.drop_eq_getElem_cons hlt, hx, upd]
    refine Ev.step (f := fun k => merge_partners.l1 k (X.set x.1.toNat x.2) 0 (L.map (fun x => (⟨x.1, x.2⟩ : S43))) (L.length : Int) ((i + 1 : Nat) : Int)) (fun k => ?_) (ih (i + 1) _ (by omega) (by omega) (by rw [List.length_set]; exact hX))
    simp only [merge_partners.l1, List.length_map]
    rw [if_pos (by omega), if_pos (by omega), if_pos (by omega), h1]
    dsimp only
    rw [if_pos g1, if_pos (by omega), w64s (by omega)]
theorem part_l0 (a b : List ByteArray) (ha : a.length ≤ 1000000) (hb : b.length ≤ 1000000) {R : List Int × Int} (hR : Ev (fun k => (diff_Pairs.f k a b).bind fun bt => merge_partners.l1 k (List.replicate a.length (-1)) bt.2 bt.1 (bt.1.length : Int) 0) R) :
    ∀ (n i : Nat), a.length - i = n → i ≤ a.length → Ev (fun k => merge_partners.l0 k a b (List.replicate i (-1) ++ List.replicate (a.length - i) 0) (a.length : Int) (i : Int)) R := by
  intro n
  induction n with
  | zero =>
    intro i hn hi
    obtain rfl : i = a.length := by omega
    refine Ev.step (fun k => ?_) hR
    simp only [merge_partners.l0]
    rw [if_neg (by omega), Nat.sub_self, List.replicate_zero, List.append_nil]
  | succ n ih =>
    intro i hn hi
    have hs : (List.replicate i (-1 : Int) ++ List.replicate (a.length - i) 0).set i (-1) = List.replicate (i + 1) (-1) ++ List.replicate (a.length - (i + 1)) 0 := by
      rw [show a.length - i = (a.length - (i + 1)) + 1 by omega, List.replicate_succ, List.set_append_right _ _ (by simp), List.length_replicate, Nat.sub_self, List.set_cons_zero, List.replicate_succ', List.append_assoc]
      rfl
    have hl : (List.replicate i (-1 : Int) ++ List.replicate (a.length - i) 0).length = a.length := by
      rw [List.length_append, List.length_replicate, List.length_replicate]; omega
    refine Ev.step (f := fun k => merge_partners.l0 k a b (List.replicate (i + 1) (-1) ++ List.replicate (a.length - (i + 1)) 0) (a.length : Int) ((i + 1 : Nat) : Int)) (fun k => ?_) (ih (i + 1) (by omega) (by omega))
    simp only [merge_partners.l0]
    rw [hl, if_pos (by omega), if_pos (by omega), if_pos (by omega), Int.toNat_natCast, hs, w64s (by omega)]
theorem size18 {a b : List ByteArray} (ha : a.length ≤ 400) (hb : b.length ≤ 400) : (a.length + 1) * (b.length + 1) ≤ 1000000 := by
  have h := Nat.mul_le_mul (show a.length + 1 ≤ 401 by omega) (show b.length + 1 ≤ 401 by omega)
  omega
/-- The pairs of two whole texts. -/
def prs0 (a b : List ByteArray) : List (Int × Int) := prs a b (a.length + b.length + 1) 0 0
theorem prs0_ok (a b : List ByteArray) : (prs0 a b).Pairwise Up ∧ ∀ x ∈ prs0 a b, 0 ≤ x.1 ∧ x.1 < a.length ∧ 0 ≤ x.2 ∧ x.2 < b.length ∧ (rdOf ByteArray.empty a x.1).toList = (rdOf ByteArray.empty b x.2).toList := by
  refine ⟨prs_up _ _ _ _ _, fun x hx => ?_⟩
  obtain ⟨h1, h2, h3, h4, h5⟩ := prs_mem _ _ _ _ _ x hx
  exact ⟨by omega, h3, by omega, h4, h5⟩
theorem prs0_length (a b : List ByteArray) : (prs0 a b).length ≤ a.length := by
  have h1 := prs_length a b (a.length + b.length + 1) 0 0 (by omega)
  have h2 := cm_range (a := a) (b := b) 0 0
  unfold prs0
  omega
theorem prog_partners (a b : List ByteArray) (ha : a.length ≤ 400) (hb : b.length ≤ 400) : ∃ X : List Int, X.length = a.length ∧ (∀ k : Nat, k < a.length → rd X k = pt (prs0 a b) k) ∧ Ev (fun k => merge_partners.f k a b) (X, 0) := by
  obtain ⟨h1, h2⟩ := prs0_ok a b
  have h3 := prs0_length a b
  refine ⟨upd (List.replicate a.length (-1)) (prs0 a b), by rw [upd_length, List.length_replicate], fun k hk => ?_, ?_⟩
  · rw [upd_rd _ _ h1 (fun x hx => by rw [List.length_replicate]; exact ⟨(h2 x hx).1, (h2 x hx).2.1, (h2 x hx).2.2.1⟩) k (by rw [List.length_replicate]; exact hk)]
    by_cases h : 0 ≤ pt (prs0 a b) k
    · rw [if_pos h]
    · rw [if_neg h]
      have hq : -1 ≤ pt (prs0 a b) (k : Int) := (pt_part _ a.length b.length h1 (fun x hx => ⟨(h2 x hx).2.1, (h2 x hx).2.2.1, (h2 x hx).2.2.2.1⟩)).low k
      have e : rd (List.replicate a.length (-1)) (k : Int) = -1 := by
        unfold rd
        rw [Int.toNat_natCast, List.getD, List.getElem?_replicate, if_pos hk]
        rfl
      rw [e]
      omega
  · unfold merge_partners.f
    have hP := prog_pairs (size18 ha hb) (by omega) (by omega) ha hb
    have hL := part_l1 (prs0 a b) a.length (by omega) (fun x hx => ⟨(h2 x hx).1, (h2 x hx).2.1, (h2 x hx).2.2.1⟩) (prs0 a b).length 0 (List.replicate a.length (-1)) (by omega) (by omega) List.length_replicate
    have hR : Ev (fun k => (diff_Pairs.f k a b).bind fun bt => merge_partners.l1 k (List.replicate a.length (-1)) bt.2 bt.1 (bt.1.length : Int) 0) (upd (List.replicate a.length (-1)) (prs0 a b), 0) := by
      refine Ev.bind hP ?_
      rw [List.length_map]
      exact hL
    have h0 := part_l0 a b (by omega) (by omega) hR a.length 0 (by omega) (by omega)
    refine Ev.congr (fun k => ?_) h0
    rw [if_pos (by omega), if_pos (by omega), Option.bind_some, List.length_replicate, Int.toNat_natCast]
    rfl
/-! the same lines -/
theorem same_next {a b : List ByteArray} {i : Nat} (hl : a.length = b.length) (hi : i < a.length) : (a.drop i = b.drop i) ↔ ((a[i]'hi).toList = (b[i]'(hl ▸ hi)).toList ∧ a.drop (i + 1) = b.drop (i + 1)) := by
  rw [List.drop_eq_getElem_cons hi, List.drop_eq_getElem_cons (show i < b.length from hl ▸ hi)]
  constructor
  · intro h
    obtain ⟨h1, h2⟩ := List.cons.inj h
    exact ⟨by rw [h1], h2⟩
  · rintro ⟨h1, h2⟩
    rw [ba_ext h1, h2]
theorem equal_f (a b : List ByteArray) (ha : a.length ≤ 1000000) : Ev (fun k => slices_Equal_string_string.f k a b) (decide (a = b)) := by
  by_cases hl : a.length = b.length
  · have go : ∀ (n i : Nat), a.length - i = n → i ≤ a.length → Ev (fun k => slices_Equal_string_string.l0 k a b (a.length : Int) (i : Int)) (decide (a.drop i = b.drop i)) := by
      intro n
      induction n with
      | zero =>
        intro i hn hi
        rw [List.drop_eq_nil_of_le (by omega), List.drop_eq_nil_of_le (by omega), decide_eq_true rfl]
        refine Ev.step (f := fun _ => some true) (fun k => ?_) (Ev.now _)
        simp only [slices_Equal_string_string.l0]
        rw [if_neg (by omega)]
      | succ n ih =>
        intro i hn hi
        have hlt : i < a.length := by omega
        have hlt2 : i < b.length := by omega
        by_cases e : (a[i]'hlt).toList = (b[i]'hlt2).toList
        · have h2 := ih (i + 1) (by omega) (by omega)
          have h3 : decide (a.drop i = b.drop i) = decide (a.drop (i + 1) = b.drop (i + 1)) := decide_eq_decide.mpr ((same_next hl hlt).trans ⟨fun h => h.2, fun h => ⟨e, h⟩⟩)
          rw [h3]
          refine Ev.step (fun k => ?_) h2
          simp only [slices_Equal_string_string.l0]
          rw [if_pos (by omega), if_pos (by omega), if_pos (by omega), if_pos (by omega), rdOf_at a i hlt, rdOf_at b i hlt2, if_pos e, w64s (by omega)]
        · have h3 : decide (a.drop i = b.drop i) = false := decide_eq_false (fun h => e ((same_next hl hlt).mp h).1)
          rw [h3]
          refine Ev.step (f := fun _ => some false) (fun k => ?_) (Ev.now _)
          simp only [slices_Equal_string_string.l0]
          rw [if_pos (by omega), if_pos (by omega), if_pos (by omega), if_pos (by omega), rdOf_at a i hlt, rdOf_at b i hlt2, if_neg e]
    have := go a.length 0 (by omega) (by omega)
    rw [List.drop_zero, List.drop_zero] at this
    unfold slices_Equal_string_string.f
    exact Ev.congr (fun k => if_pos (by omega)) this
  · have h3 : decide (a = b) = false := decide_eq_false (fun h => hl (by rw [h]))
    rw [h3]
    unfold slices_Equal_string_string.f
    exact Ev.congr (fun k => if_neg (by omega)) (Ev.now _)
/-- The kind of lines of which something was changed. -/
def kindOf (b o t : List ByteArray) : Int := if o = t then 4 else if b = t then 2 else if b = o then 3 else 5
theorem clone_f (l : List ByteArray) (h : l.length ≤ 1000) : slices_Clone_string_string.f l = some l := by
  unfold slices_Clone_string_string.f
  rw [if_pos (by omega)]
theorem prog_kind (b o t : List ByteArray) (h0 : b.length ≤ 1000) (h1 : o.length ≤ 1000) (h2 : t.length ≤ 1000) : Ev (fun k => merge_chunk.f k b o t) (kindOf b o t, b, o, t) := by
  unfold merge_chunk.f kindOf
  rw [clone_f b h0, clone_f o h1, clone_f t h2]
  refine Ev.congr (fun k => (Option.bind_some _ _).trans ((Option.bind_some _ _).trans (Option.bind_some _ _))) ?_
  refine Ev.bind (equal_f o t (by omega)) ?_
  by_cases e1 : o = t
  · rw [if_pos e1]
    exact Ev.congr (fun k => if_pos (decide_eq_true e1)) (Ev.now _)
  · rw [if_neg e1]
    refine Ev.congr (fun k => if_neg (by simp [e1])) ?_
    refine Ev.bind (equal_f b t (by omega)) ?_
    by_cases e2 : b = t
    · rw [if_pos e2]
      exact Ev.congr (fun k => if_pos (decide_eq_true e2)) (Ev.now _)
    · rw [if_neg e2]
      refine Ev.congr (fun k => if_neg (by simp [e2])) ?_
      refine Ev.bind (equal_f b o (by omega)) ?_
      by_cases e3 : b = o
      · rw [if_pos e3]
        exact Ev.congr (fun k => if_pos (decide_eq_true e3)) (Ev.now _)
      · rw [if_neg e3]
        exact Ev.congr (fun k => if_neg (by simp [e3])) (Ev.now _)
end Go.Proofs.YthdmioocgofaeaaDoor.Pl
