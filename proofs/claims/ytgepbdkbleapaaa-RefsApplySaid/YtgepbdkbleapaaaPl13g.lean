/- Where a ref stands: the search by halves comes to what the look through all does; in plain Lean. -/
import Derived.Test.YtgepbdkbleapaaaPl13
import Derived.Test.YtgepbdkbleapaaaMx4
import Derived.Test.YtgepbdkbleapaaaMx10
namespace Go.Proofs.Ytgepbdkbleapaaa.Pl
set_option linter.unusedVariables false
set_option linter.unusedSimpArgs false
open Go.RowKit Go.Proofs.Ytgepbdkbleapaaa.M Go.Proofs.YtgepbdkbleapaaaW.PrintWords Go.Proofs.YtgepbdkbleapaaaW.PrintLast

theorem less_trans : ∀ a b c : List UInt8, Op.bytesLess a b = true → Op.bytesLess b c = true → Op.bytesLess a c = true
  | _, _, [], _, h => by simp [Op.bytesLess] at h
  | [], _, c :: z, _, _ => rfl
  | a :: x, [], c :: z, h, _ => by simp [Op.bytesLess] at h
  | a :: x, b :: y, c :: z, h1, h2 => by
    have ih := less_trans x y z
    simp only [Op.bytesLess, Bool.or_eq_true, Bool.and_eq_true, decide_eq_true_eq, beq_iff_eq, UInt8.lt_iff_toNat_lt] at h1 h2 ⊢
    rcases h1 with h1 | ⟨rfl, h1⟩
    · rcases h2 with h2 | ⟨rfl, h2⟩
      · exact .inl (by omega)
      · exact .inl h1
    · rcases h2 with h2 | ⟨rfl, h2⟩
      · exact .inl h2
      · exact .inr ⟨rfl, ih h1 h2⟩
theorem cmp_less : ∀ a b : List UInt8, Lib.compareBytes a b < 0 ↔ Op.bytesLess a b = true
  | [], [] => by simp [Lib.compareBytes, Op.bytesLess]
  | [], _ :: _ => by simp [Lib.compareBytes, Op.bytesLess]
  | _ :: _, [] => by simp [Lib.compareBytes, Op.bytesLess]
  | a :: x, b :: y => by
    have ih := cmp_less x y
    simp only [Lib.compareBytes, Op.bytesLess]
    by_cases h1 : a < b
    · rw [if_pos h1, decide_eq_true h1]; simp
    · rw [if_neg h1, decide_eq_false h1, Bool.false_or]
      by_cases h2 : b < a
      · have hne : (a == b) = false := beq_eq_false_iff_ne.mpr (fun e => by subst e; exact h1 h2)
        rw [if_pos h2, hne]; simp
      · have he : a = b := by
          rw [UInt8.lt_iff_toNat_lt] at h1 h2
          exact UInt8.toNat_inj.mp (by omega)
        rw [if_neg h2, ih, he, beq_self_eq_true, Bool.true_and]
theorem cmp_zero : ∀ a b : List UInt8, Lib.compareBytes a b = 0 ↔ a = b
  | [], [] => by simp [Lib.compareBytes]
  | [], _ :: _ => by simp [Lib.compareBytes]
  | _ :: _, [] => by simp [Lib.compareBytes]
  | a :: x, b :: y => by
    have ih := cmp_zero x y
    simp only [Lib.compareBytes]
    by_cases h1 : a < b
    · rw [if_pos h1]
      exact ⟨fun h => absurd h (by decide), fun e => by injection e with e _; subst e; rw [UInt8.lt_iff_toNat_lt] at h1; omega⟩
    · rw [if_neg h1]
      by_cases h2 : b < a
      · rw [if_pos h2]
        exact ⟨fun h => absurd h (by decide), fun e => by injection e with e _; subst e; exact absurd h2 h1⟩
      · have he : a = b := by
          rw [UInt8.lt_iff_toNat_lt] at h1 h2
          exact UInt8.toNat_inj.mp (by omega)
        rw [if_neg h2, ih, he]
        exact ⟨fun e => by rw [e], fun e => by injection e⟩
theorem cmp_same (a b : List UInt8) : (Lib.compareBytes a b == 0) = decide (a = b) := by
  by_cases h : a = b
  · rw [decide_eq_true h]; exact beq_iff_eq.mpr ((cmp_zero a b).mpr h)
  · rw [decide_eq_false h]; exact beq_eq_false_iff_ne.mpr (fun e => h ((cmp_zero a b).mp e))
/-- Refs in their order. -/
def srt (L : List Rf) : Prop := L.Pairwise (fun a b => Op.bytesLess a.f0.toList b.f0.toList = true)
theorem chk_srt : ∀ (L : List Rf) (p : Option ByteArray), chkGo p L = 0 → srt L ∧ (∀ q, p = some q → ∀ x ∈ L, Op.bytesLess q.toList x.f0.toList = true) ∧ ∀ x ∈ L, 0 < refK x.f0 ∧ x.f1.size = 32
  | [], p, _ => ⟨List.Pairwise.nil, fun _ _ x hx => by simp at hx, fun x hx => by simp at hx⟩
  | x :: l, p, h => by
    rw [chkGo_cons] at h
    by_cases c1 : 0 < refK x.f0
    · rw [if_pos c1] at h
      by_cases c2 : (x.f1.size : Int) = 32
      · rw [if_pos c2] at h
        by_cases c3 : okA p x.f0 = true
        · rw [if_pos c3] at h
          obtain ⟨h1, h2, h3⟩ := chk_srt l (some x.f0) h
          refine ⟨List.Pairwise.cons (fun y hy => h2 _ rfl y hy) h1, fun q hq y hy => ?_, fun y hy => ?_⟩
          · subst hq
            rcases List.mem_cons.mp hy with rfl | hy
            · exact c3
            · exact less_trans _ _ _ c3 (h2 _ rfl y hy)
          · rcases List.mem_cons.mp hy with rfl | hy
            · exact ⟨c1, by omega⟩
            · exact h3 y hy
        · rw [if_neg c3] at h
          exact absurd h (by decide)
      · rw [if_neg c2] at h
        exact absurd h (by decide)
    · rw [if_neg c1] at h
      exact absurd h (by decide)
/-- How many stand ahead of a name. -/
def pos (n : ByteArray) : List Rf → Nat
  | [] => 0
  | x :: l => if Op.bytesLess x.f0.toList n.toList = true then pos n l + 1 else 0
theorem pos_le (n : ByteArray) : ∀ L : List Rf, pos n L ≤ L.length
  | [] => Nat.le_refl _
  | x :: l => by
    have := pos_le n l
    rw [pos, List.length_cons]
    split <;> omega
theorem pos_less (n : ByteArray) : ∀ (L : List Rf) (t : Nat) (h : t < L.length), t < pos n L → Op.bytesLess (L[t]'h).f0.toList n.toList = true
  | x :: l, t, h, hp => by
    rw [pos] at hp
    by_cases c : Op.bytesLess x.f0.toList n.toList = true
    · rw [if_pos c] at hp
      cases t with
      | zero => exact c
      | succ t => exact pos_less n l t (by simpa using h) (by omega)
    · rw [if_neg c] at hp
      omega
theorem pos_more (n : ByteArray) : ∀ (L : List Rf), srt L → ∀ (t : Nat) (h : t < L.length), pos n L ≤ t → ¬ Op.bytesLess (L[t]'h).f0.toList n.toList = true
  | x :: l, hs, t, h, hp => by
    rw [pos] at hp
    obtain ⟨h1, h2⟩ := List.pairwise_cons.mp hs
    by_cases c : Op.bytesLess x.f0.toList n.toList = true
    · rw [if_pos c] at hp
      cases t with
      | zero => omega
      | succ t => exact pos_more n l h2 t (by simpa using h) (by omega)
    · cases t with
      | zero => exact c
      | succ t => exact fun hh => c (less_trans _ _ _ (h1 _ (List.getElem_mem (by simpa using h))) hh)
/-- Is it there? -/
def isAt (n : ByteArray) (L : List Rf) : Bool := match L[pos n L]? with
  | none => false
  | some x => decide (x.f0.toList = n.toList)
theorem half {i j : Nat} (h : i + j ≤ 100000) : wrap64 ((IntKind.u64.wrap (wrap64 ((i : Int) + (j : Int)))) / 2) = (((i + j) / 2 : Nat) : Int) := by
  have e1 : wrap64 ((i : Int) + (j : Int)) = ((i + j : Nat) : Int) := (w64 (by omega) (by omega)).trans (by omega)
  have e2 : IntKind.u64.wrap ((i + j : Nat) : Int) = ((i + j : Nat) : Int) := by rw [IntKind.wrap_u64]; omega
  rw [e1, e2]
  exact (w64 (by omega) (by omega)).trans (by omega)
theorem search (n : ByteArray) (L : List Rf) (hL : L.length ≤ 1000) (hs : srt L) : ∀ (m i j : Nat), j - i ≤ m → i ≤ pos n L → pos n L ≤ j → j ≤ L.length →
    Ev (fun k => api_Ref_string.l0 k L n (L.length : Int) (i : Int) (j : Int)) ((pos n L : Int), isAt n L) := by
  intro m
  induction m with
  | zero =>
    intro i j hm h1 h2 h3
    obtain rfl : i = pos n L := by omega
    refine Ev.step (f := fun _ => some ((pos n L : Int), isAt n L)) (fun k => ?_) (Ev.now _)
    simp only [api_Ref_string.l0]
    rw [if_neg (by omega)]
    unfold isAt
    by_cases c : pos n L < L.length
    · rw [if_pos (by omega), if_pos (by omega), if_pos (by omega), rd_at L _ c, List.getElem?_eq_getElem c]
      simp only [refs_place_1.f, strings_Compare.f, Option.bind_some]
      rw [cmp_same, ← toList_eq, ← toList_eq]
    · rw [if_neg (by omega), List.getElem?_eq_none (by omega)]
  | succ m ih =>
    intro i j hm h1 h2 h3
    by_cases hij : i < j
    · have hmid : (i + j) / 2 < L.length := by omega
      have hl := cmp_less (L[(i + j) / 2]'hmid).f0.toList n.toList
      by_cases c : Op.bytesLess (L[(i + j) / 2]'hmid).f0.toList n.toList = true
      · have hp : (i + j) / 2 < pos n L := Nat.lt_of_not_le (fun hle => pos_more n L hs _ hmid hle c)
        refine Ev.step (fun k => ?_) (ih ((i + j) / 2 + 1) j (by omega) (by omega) h2 h3)
        simp only [api_Ref_string.l0]
        rw [if_pos (by omega), half (by omega), if_pos (by omega), if_pos (by omega), rd_at L _ hmid]
        simp only [refs_place_1.f, strings_Compare.f, Option.bind_some]
        rw [← toList_eq, ← toList_eq, if_pos (hl.mpr c), w13 (by omega)]
      · have hp : pos n L ≤ (i + j) / 2 := Nat.le_of_not_lt (fun hlt => c (pos_less n L _ hmid hlt))
        refine Ev.step (fun k => ?_) (ih i ((i + j) / 2) (by omega) h1 hp (by omega))
        simp only [api_Ref_string.l0]
        rw [if_pos (by omega), half (by omega), if_pos (by omega), if_pos (by omega), rd_at L _ hmid]
        simp only [refs_place_1.f, strings_Compare.f, Option.bind_some]
        rw [← toList_eq, ← toList_eq, if_neg (fun h => c (hl.mp h))]
    · exact ih i j (by omega) h1 h2 h3
theorem place_f (n : ByteArray) (L : List Rf) (hL : L.length ≤ 1000) (hs : srt L) : Ev (fun k => refs_place.f k L n) ((pos n L : Int), isAt n L) := by
  unfold refs_place.f api_Ref_string.f
  refine Ev.bind (a := ((pos n L : Int), isAt n L)) (search n L hL hs L.length 0 L.length (by omega) (by omega) (pos_le n L) (by omega)) ?_
  exact Ev.now _
/-- What stands there. -/
def getS (n : ByteArray) (L : List Rf) : ByteArray := match L[pos n L]? with
  | none => (⟨#[]⟩ : ByteArray)
  | some x => if x.f0.toList = n.toList then x.f1 else (⟨#[]⟩ : ByteArray)
theorem get_prog (h n : ByteArray) (L : List Rf) (hL : L.length ≤ 1000) (hs : srt L) : Ev (fun k => refs_Get.f k h L n) (getS n L) := by
  unfold refs_Get.f
  refine Ev.bind (place_f n L hL hs) ?_
  unfold getS isAt
  by_cases c : pos n L < L.length
  · rw [List.getElem?_eq_getElem c]
    dsimp only
    by_cases c2 : (L[pos n L]'c).f0.toList = n.toList
    · rw [if_pos c2]
      refine Ev.congr (f := fun _ => some (L[pos n L]'c).f1) (fun k => ?_) (Ev.now _)
      rw [if_pos (decide_eq_true c2), if_pos (by omega), if_pos (by omega), rd_at L _ c]
    · rw [if_neg c2]
      exact Ev.congr (fun k => if_neg (by rw [decide_eq_false c2]; simp)) (Ev.now _)
  · rw [List.getElem?_eq_none (by omega)]
    exact Ev.congr (fun k => if_neg (by simp)) (Ev.now _)
/-- The first of that name. -/
def getL (n : ByteArray) : List Rf → ByteArray
  | [] => (⟨#[]⟩ : ByteArray)
  | x :: l => if x.f0.toList = n.toList then x.f1 else getL n l
theorem getL_none (n : ByteArray) : ∀ l : List Rf, (∀ x ∈ l, ¬ x.f0.toList = n.toList) → getL n l = (⟨#[]⟩ : ByteArray)
  | [], _ => rfl
  | x :: l, h => by rw [getL, if_neg (h x (List.mem_cons_self ..)), getL_none n l (fun y hy => h y (List.mem_cons_of_mem _ hy))]
theorem getS_getL (n : ByteArray) : ∀ L : List Rf, srt L → getS n L = getL n L
  | [], _ => rfl
  | x :: l, hs => by
    obtain ⟨h1, h2⟩ := List.pairwise_cons.mp hs
    have ih := getS_getL n l h2
    rw [getL]
    unfold getS at ih ⊢
    rw [pos]
    by_cases c : Op.bytesLess x.f0.toList n.toList = true
    · rw [if_pos c, List.getElem?_cons_succ, ih, if_neg (fun e => by rw [e, less_irrefl] at c; cases c)]
    · rw [if_neg c, List.getElem?_cons_zero]
      dsimp only
      by_cases c2 : x.f0.toList = n.toList
      · rw [if_pos c2, if_pos c2]
      · rw [if_neg c2, if_neg c2, getL_none]
        intro y hy e
        have := h1 y hy
        rw [e] at this
        exact c this
theorem get_l0 (h n : ByteArray) (L : List Rf) (hL : L.length ≤ 1000) : ∀ (m i : Nat), L.length - i = m → i ≤ L.length → Ev (fun k => pollardref13_Get.l0 k n (i : Int) h (L.map toR)) (getL n (L.drop i)) := by
  intro m
  induction m with
  | zero =>
    intro i hn hi
    rw [List.drop_eq_nil_of_le (by omega)]
    refine Ev.step (f := fun _ => some (⟨#[]⟩ : ByteArray)) (fun k => ?_) (Ev.now _)
    simp only [pollardref13_Get.l0, List.length_map]
    rw [if_neg (by omega)]
  | succ m ih =>
    intro i hn hi
    have hlt : i < L.length := by omega
    have h2 := ih (i + 1) (by omega) (by omega)
    have f0 : (toR (L[i]'hlt)).f0 = (L[i]'hlt).f0 := rfl
    have f1 : (toR (L[i]'hlt)).f1 = (L[i]'hlt).f1 := rfl
    rw [List.drop_eq_getElem_cons hlt, getL]
    by_cases c : (L[i]'hlt).f0.toList = n.toList
    · rw [if_pos c]
      refine Ev.step (f := fun _ => some (L[i]'hlt).f1) (fun k => ?_) (Ev.now _)
      simp only [pollardref13_Get.l0, List.length_map]
      rw [if_pos (by omega), if_pos (by omega), rd_at' L i hlt, f0, f1, if_pos c]
    · rw [if_neg c]
      refine Ev.step (fun k => ?_) h2
      simp only [pollardref13_Get.l0, List.length_map]
      rw [if_pos (by omega), if_pos (by omega), rd_at' L i hlt, f0, if_neg c, w13 (by omega)]
theorem get_ref (h n : ByteArray) (L : List Rf) (hL : L.length ≤ 1000) : Ev (fun k => pollardref13_Get.f k h (L.map toR) n) (getL n L) := by
  have := get_l0 h n L hL L.length 0 (by omega) (by omega)
  rw [List.drop_zero] at this
  exact this
end Go.Proofs.Ytgepbdkbleapaaa.Pl
