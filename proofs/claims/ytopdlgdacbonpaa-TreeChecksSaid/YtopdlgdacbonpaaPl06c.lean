/- A tree's bytes: read as the document reads them, and the same again. -/
import Derived.Test.YtopdlgdacbonpaaPl06b
import Derived.Test.YtopdlgdacbonpaaMx3
import Derived.Test.YtopdlgdacbonpaaMx4
import Derived.Test.YtopdlgdacbonpaaMx7
import Derived.Test.YtopdlgdacbonpaaMx8
import Derived.Test.YtopdlgdacbonpaaMx5
namespace Go.Proofs.Ytopdlgdacbonpaa.Pl
set_option linter.unusedVariables false
set_option linter.unusedSimpArgs false
open Go.RowKit Go.Proofs.Ytopdlgdacbonpaa.M Go.Proofs.YtopdlgdacbonpaaW.PrintWords Go.Proofs.YtopdlgdacbonpaaW.PrintLast

theorem rindex (s : ByteArray) (hs : s.size ≤ 140737488351232) (c : UInt8) : Ev (fun k => pollardref06_index.f k s (c.toNat : Int)) (Lib.indexByte s.toList c) := by
  have go : ∀ (m i : Nat), i + m = s.size → ∀ v, Lib.indexByte (s.toList.drop i) c = v → Ev (fun k => pollardref06_index.l0 k s (c.toNat : Int) (i : Int)) (if v = -1 then -1 else v + i) := by
    intro m
    induction m with
    | zero =>
      intro i hi v hv
      rw [List.drop_of_length_le (by rw [toList_length]; omega)] at hv
      obtain rfl : -1 = v := hv
      refine Ev.step (f := fun _ => some (-1)) (fun k => ?_) (Ev.now _)
      simp only [pollardref06_index.l0]
      rw [if_neg (by omega)]
    | succ m ih =>
      intro i hi v hv
      have hlt : i < s.size := by omega
      have hl : i < s.toList.length := by rw [toList_length]; exact hlt
      have ih' := ih (i + 1) (by omega)
      have w1 : wrap64 ((i : Int) + 1) = ((i + 1 : Nat) : Int) := (w64 (by omega) (by omega)).trans (by omega)
      rw [List.drop_eq_getElem_cons hl, index_cons] at hv
      have hb := bt_toList s i hlt
      by_cases he : s.toList[i] = c
      · rw [if_pos he] at hv
        subst hv
        refine Ev.step (f := fun _ => some ((i : Int))) (fun k => ?_) ?_
        · simp only [pollardref06_index.l0]
          rw [if_pos (by omega), if_pos (by omega), if_pos (by rw [hb, he])]
        · rw [if_neg (by omega), Int.zero_add]
          exact Ev.now _
      · rw [if_neg he] at hv
        refine Ev.step (f := fun k => pollardref06_index.l0 k s (c.toNat : Int) ((i + 1 : Nat) : Int)) (fun k => ?_) ?_
        · simp only [pollardref06_index.l0]
          rw [if_pos (by omega), if_pos (by omega), if_neg (by rw [hb]; exact fun e => he (UInt8.toNat_inj.mp (by omega))), w1]
        · have hge := Lib.indexByte_ge (s.toList.drop (i + 1)) c
          have ih'' := ih' _ rfl
          by_cases h1 : Lib.indexByte (s.toList.drop (i + 1)) c = -1
          · rw [if_pos h1] at hv ih''
            subst hv
            exact ih''
          · rw [if_neg h1] at hv ih''
            subst hv
            rw [if_neg (by omega)]
            have e : Lib.indexByte (s.toList.drop (i + 1)) c + 1 + (i : Int) = Lib.indexByte (s.toList.drop (i + 1)) c + ((i + 1 : Nat) : Int) := by omega
            rw [e]
            exact ih''
  have h0 := go s.size 0 (by omega) _ rfl
  rw [List.drop_zero] at h0
  generalize Lib.indexByte s.toList c = v at *
  have e : (if v = -1 then -1 else v + ((0 : Nat) : Int)) = v := by
    split
    · omega
    · omega
  rw [e] at h0
  exact h0

/-- An entry's bytes. -/
def line (x : S36) : List UInt8 := word x.f1 ++ 32 :: x.f0.toList ++ 0 :: x.f2.toList

theorem ent_ok {s : ByteArray} {x : S36} {r : ByteArray} (h : ent s = .ok x r) : s.toList = line x ++ r.toList ∧ x.f0.size ≤ s.size ∧ 1 ≤ x.f1 ∧ x.f1 ≤ 3 ∧ x.f2.size = 32 ∧ r.size < s.size := by
  unfold ent at h
  have hge := Lib.indexByte_ge s.toList 0
  split at h
  · cases h
  next hc =>
    obtain ⟨z, hz⟩ := Int.eq_ofNat_of_zero_le (show 0 ≤ Lib.indexByte s.toList 0 by omega)
    obtain ⟨h1, h2, h3⟩ := index_split hz
    rw [hz, Int.toNat_natCast] at h
    rw [hz] at hc
    cases hm : modeOf (s.extract 0 z) with
    | none =>
      rw [hm] at h
      cases h
    | some p =>
      obtain ⟨m, n⟩ := p
      rw [hm] at h
      injection h with hx hr
      subst hx
      subst hr
      have hsz : (s.extract 0 z).size = z := by
        rw [ByteArray.size_extract]
        omega
      have key : 1 ≤ m ∧ m ≤ 3 ∧ (s.extract 0 z).toList = word m ++ 32 :: n.toList ∧ n.size ≤ z := by
        unfold modeOf at hm
        have tk : ∀ (j : Nat) (w : List UInt8), (s.extract 0 z).toList.take j = w → (s.extract 0 z).toList = w ++ ((s.extract 0 z).extract j (s.extract 0 z).size).toList := by
          intro j w e
          rw [toList_from, ← e, List.take_append_drop]
        have sz : ∀ j : Nat, ((s.extract 0 z).extract j (s.extract 0 z).size).size ≤ z := by
          intro j
          rw [extract_size, hsz]
          omega
        split at hm
        next hp =>
          obtain ⟨rfl, rfl⟩ := Prod.mk.inj (Option.some.inj hm)
          refine ⟨by omega, by omega, ?_, sz 5⟩
          rw [tk 5 _ hp]
          simp
        split at hm
        next hp =>
          obtain ⟨rfl, rfl⟩ := Prod.mk.inj (Option.some.inj hm)
          refine ⟨by omega, by omega, ?_, sz 4⟩
          rw [tk 4 _ hp]
          simp
        split at hm
        next hp =>
          obtain ⟨rfl, rfl⟩ := Prod.mk.inj (Option.some.inj hm)
          refine ⟨by omega, by omega, ?_, sz 5⟩
          rw [tk 5 _ hp]
          simp
        · cases hm
      obtain ⟨k1, k2, k3, k4⟩ := key
      refine ⟨?_, by simp only; omega, k1, k2, ?_, ?_⟩
      · unfold line
        simp only
        rw [← k3, toList_extract, toList_extract, toList_from, List.drop_zero, Nat.sub_zero, show z + 33 - (z + 1) = 32 by omega]
        conv => lhs; rw [h1]
        rw [List.append_assoc, List.cons_append]
        congr 2
        rw [show z + 33 = (z + 1) + 32 by omega, ← List.drop_drop (i := 32) (j := z + 1), List.take_append_drop]
      · simp only
        rw [ByteArray.size_extract]
        omega
      · rw [extract_size]
        rw [toList_length] at h3
        omega

theorem mode_word {h : ByteArray} {m : Int} (hm : 1 ≤ m ∧ m ≤ 3) : (⟨(word m).toArray⟩ : ByteArray).size = (word m).length ∧ (⟨(word m).toArray⟩ ++ (⟨#[32]⟩ : ByteArray)).toList = word m ++ [32] := by
  constructor
  · rfl
  · rw [toList_append, toList_eq, toList_eq]

/-- One word looked for by the document. -/
theorem rword (s : ByteArray) (hs : s.size ≤ 140737488351232) (acc : List (S40)) (z : Nat) (hz : z < s.size) (m : Nat) (hm : 1 ≤ m ∧ m ≤ 3) (n : ByteArray) (o : Int) (d : ByteArray) (k : Nat) :
    pollardref06_Get.l1 (k + 1) s acc z m n o d = if (s.extract 0 z).toList.take ((word m).length + 1) = word m ++ [32] then pollardref06_Get.l1 k s acc z ((m + 1 : Nat) : Int) ((s.extract 0 z).extract ((word m).length + 1) (s.extract 0 z).size) m d else pollardref06_Get.l1 k s acc z ((m + 1 : Nat) : Int) n o d := by
  have w1 : wrap64 ((m : Int) + 1) = ((m + 1 : Nat) : Int) := (w64 (by omega) (by omega)).trans (by omega)
  obtain ⟨e1, e2⟩ := mode_word (h := s) (m := (m : Int)) (by omega)
  have hw : (word (m : Int)).length ≤ 4 := by
    have : m = 1 ∨ m = 2 ∨ m = 3 := by omega
    rcases this with rfl | rfl | rfl <;> decide
  simp only [pollardref06_Get.l1]
  rw [if_pos (by omega), refmode _ (by omega)]
  simp only [Option.bind_some]
  rw [e1, e2, w1, if_pos (by omega)]
  have hsz : (s.extract 0 z).size = z := by
    rw [ByteArray.size_extract]
    omega
  have tn : (((word (m : Int)).length : Int) + 1).toNat = (word (m : Int)).length + 1 := by omega
  have tk : (s.extract 0 z).toList.take ((word (m : Int)).length + 1) = (s.toList.take z).take ((word (m : Int)).length + 1) := by
    rw [toList_extract, List.drop_zero, Nat.sub_zero]
  rw [tk, tn, toList_extract, List.drop_zero, Nat.sub_zero, Int.toNat_natCast]
  have ee : s.extract ((word (m : Int)).length + 1) z = (s.extract 0 z).extract ((word (m : Int)).length + 1) (s.extract 0 z).size := by
    apply ba_ext
    rw [toList_from, toList_extract, toList_extract, List.drop_zero, Nat.sub_zero, List.drop_take]
  by_cases c : (z : Int) ≥ ((word (m : Int)).length : Int) + 1
  · rw [if_pos c, if_pos (by omega), if_pos (by omega), List.take_take, Nat.min_eq_left (by omega)]
    by_cases c2 : s.toList.take ((word (m : Int)).length + 1) = word (m : Int) ++ [32]
    · rw [if_pos c2, if_pos c2, if_pos (by omega), if_pos (by omega), ee]
    · rw [if_neg c2, if_neg c2]
  · rw [if_neg c, if_neg]
    intro hh
    have := congrArg List.length hh
    rw [List.length_take, List.length_take, toList_length, List.length_append] at this
    simp only [List.length_cons, List.length_nil] at this
    omega

/-- Behind the three words. -/
theorem rlast (s : ByteArray) (hs : s.size ≤ 140737488351232) (acc : List (S40)) (ha : acc.length ≤ 256) (z : Nat) (hz : z + 33 ≤ s.size) (v : (List (S40)) × Int) (n : ByteArray) (m : Int)
    (hm0 : m = 0 → v = ([], 60)) (hm1 : m ≠ 0 → if acc.length + 1 > 256 then v = ([], 3) else Ev (fun k => pollardref06_Get.l0 k (s.extract (z + 33) s.size) (acc ++ [cv ⟨n, m, s.extract (z + 1) (z + 33)⟩])) v) :
    Ev (fun k => pollardref06_Get.l1 k s acc z ((4 : Nat) : Int) n m (s.extract (z + 1) (z + 33))) v := by
  have w3 : wrap64 ((z : Int) + 33) = ((z + 33 : Nat) : Int) := (w64 (by omega) (by omega)).trans (by omega)
  by_cases c : m = 0
  · rw [hm0 c]
    refine Ev.step (f := fun _ => some ([], 60)) (fun k => ?_) (Ev.now _)
    simp only [pollardref06_Get.l1]
    rw [if_neg (by omega), if_pos c]
  · have h1 := hm1 c
    have e1 : ∀ k, pollardref06_Get.l1 (k + 1) s acc z ((4 : Nat) : Int) n m (s.extract (z + 1) (z + 33)) = if acc.length + 1 > 256 then some ([], 3) else pollardref06_Get.l0 k (s.extract (z + 33) s.size) (acc ++ [cv ⟨n, m, s.extract (z + 1) (z + 33)⟩]) := by
      intro k
      simp only [pollardref06_Get.l1]
      rw [if_neg (by omega), if_neg c, if_pos (by omega)]
      rw [Option.bind_some, w3, if_pos (by omega), if_pos (by omega), Int.toNat_natCast, List.length_append]
      by_cases c2 : acc.length + 1 > 256
      · rw [if_pos c2, if_pos (by simp only [List.length_cons, List.length_nil]; omega)]
      · rw [if_neg c2, if_neg (by simp only [List.length_cons, List.length_nil]; omega)]
        unfold cv
        rfl
    refine Ev.step e1 ?_
    by_cases c2 : acc.length + 1 > 256
    · rw [if_pos c2] at h1
      rw [h1]
      exact Ev.congr (fun k => if_pos c2) (Ev.now _)
    · rw [if_neg c2] at h1
      exact Ev.congr (fun k => if_neg c2) h1

theorem ev_if {α : Type} {v : α} {f g : Nat → Option α} {c : Prop} [Decidable c] (h1 : c → Ev f v) (h2 : ¬ c → Ev g v) : Ev (fun k => if c then f k else g k) v := by
  by_cases hc : c
  · exact Ev.congr (fun k => if_pos hc) (h1 hc)
  · exact Ev.congr (fun k => if_neg hc) (h2 hc)

theorem words_apart (l : List UInt8) : (l.take 5 = word 1 ++ [32] → ¬ l.take 4 = word 2 ++ [32] ∧ ¬ l.take 5 = word 3 ++ [32]) ∧ (l.take 4 = word 2 ++ [32] → ¬ l.take 5 = word 3 ++ [32]) := by
  have hd : ∀ {j : Nat} {b : UInt8} {t : List UInt8}, l.take (j + 1) = b :: t → l.head? = some b := by
    intro j b t h
    cases l with
    | nil => simp at h
    | cons a l =>
      rw [List.take_succ_cons] at h
      injection h with h _
      rw [h]
      rfl
  refine ⟨fun h => ⟨fun h2 => ?_, fun h2 => ?_⟩, fun h h2 => ?_⟩
  all_goals
    have := (hd h).symm.trans (hd h2)
    revert this
    decide

/-- The three words, and what is behind them. -/
theorem rwords (s : ByteArray) (hs : s.size ≤ 140737488351232) (acc : List (S40)) (ha : acc.length ≤ 256) (z : Nat) (hz : z + 33 ≤ s.size) (v : (List (S40)) × Int)
    (hv : match modeOf (s.extract 0 z) with
      | none => v = ([], 60)
      | some (m, n) => if acc.length + 1 > 256 then v = ([], 3) else Ev (fun k => pollardref06_Get.l0 k (s.extract (z + 33) s.size) (acc ++ [cv ⟨n, m, s.extract (z + 1) (z + 33)⟩])) v) :
    Ev (fun k => pollardref06_Get.l1 k s acc z ((1 : Nat) : Int) (⟨#[]⟩ : ByteArray) 0 (s.extract (z + 1) (z + 33))) v := by
  have hlt : z < s.size := by omega
  have last := rlast s hs acc ha z hz v
  obtain ⟨a1, a2⟩ := words_apart (s.extract 0 z).toList
  have r1 := fun n o d k => rword s hs acc z hlt 1 (by omega) n o d k
  have r2 := fun n o d k => rword s hs acc z hlt 2 (by omega) n o d k
  have r3 := fun n o d k => rword s hs acc z hlt 3 (by omega) n o d k
  rw [show ((1 : Nat) : Int) = 1 by decide, show (word 1).length + 1 = 5 by decide] at r1
  rw [show ((2 : Nat) : Int) = 2 by decide, show (word 2).length + 1 = 4 by decide] at r2
  rw [show ((3 : Nat) : Int) = 3 by decide, show (word 3).length + 1 = 5 by decide] at r3
  rw [show ((1 + 1 : Nat) : Int) = 2 by decide] at r1
  rw [show ((2 + 1 : Nat) : Int) = 3 by decide] at r2
  rw [show ((3 + 1 : Nat) : Int) = ((4 : Nat) : Int) by decide] at r3
  rw [show ((1 : Nat) : Int) = 1 by decide]
  unfold modeOf at hv
  generalize s.extract 0 z = h at *
  refine Ev.step (r1 _ _ _) (ev_if (fun c1 => ?_) (fun c1 => ?_))
  · rw [if_pos c1] at hv
    refine Ev.step (r2 _ _ _) (ev_if (fun c2 => absurd c2 (a1 c1).1) (fun _ => ?_))
    refine Ev.step (r3 _ _ _) (ev_if (fun c2 => absurd c2 (a1 c1).2) (fun _ => ?_))
    exact last _ _ (fun h => by omega) (fun _ => hv)
  · rw [if_neg c1] at hv
    refine Ev.step (r2 _ _ _) (ev_if (fun c2 => ?_) (fun c2 => ?_))
    · rw [if_pos c2] at hv
      refine Ev.step (r3 _ _ _) (ev_if (fun c3 => absurd c3 (a2 c2)) (fun _ => ?_))
      exact last _ _ (fun h => by omega) (fun _ => hv)
    · rw [if_neg c2] at hv
      refine Ev.step (r3 _ _ _) (ev_if (fun c3 => ?_) (fun c3 => ?_))
      · rw [if_pos c3] at hv
        exact last _ _ (fun h => by omega) (fun _ => hv)
      · rw [if_neg c3] at hv
        exact last _ _ (fun _ => hv) (fun h => absurd rfl h)

/-- The document's reading, entry by entry. -/
theorem rstep (s : ByteArray) (hs : s.size ≤ 140737488351232) (h0 : 0 < s.size) (acc : List (S40)) (ha : acc.length ≤ 256) (v : (List (S40)) × Int)
    (hv : match ent s with
      | .bad e => v = ([], e)
      | .ok x r => if acc.length + 1 > 256 then v = ([], 3) else Ev (fun k => pollardref06_Get.l0 k r (acc ++ [cv x])) v) :
    Ev (fun k => pollardref06_Get.l0 k s acc) v := by
  have hge := Lib.indexByte_ge s.toList 0
  have ri : Ev (fun k => pollardref06_index.f k s 0) (Lib.indexByte s.toList 0) := by
    have h := rindex s hs 0
    rw [show (((0 : UInt8).toNat : Nat) : Int) = 0 by decide] at h
    exact h
  refine Ev.step (f := fun k => (pollardref06_index.f k s 0).bind fun t184 => (if t184 < 0 then (pollardref06_Get.j1 k s acc t184 true) else (pollardref06_Get.j1 k s acc t184 (decide ((wrap64 ((wrap64 ((s.size : Int) - t184)) - 1)) < 32))))) (fun k => ?_) (Ev.bind ri ?_)
  · simp only [pollardref06_Get.l0]
    rw [if_pos (by omega)]
  unfold ent at hv
  have bad : ∀ t, v = ([], 4) → Ev (fun k => pollardref06_Get.j1 k s acc t true) v := by
    intro t h
    rw [h]
    refine Ev.step (f := fun _ => some ([], 4)) (fun k => ?_) (Ev.now _)
    simp only [pollardref06_Get.j1]
    rw [if_pos trivial]
  by_cases hz : 0 ≤ Lib.indexByte s.toList 0
  · obtain ⟨z, hz'⟩ := Int.eq_ofNat_of_zero_le hz
    obtain ⟨_, _, hlt⟩ := index_split hz'
    rw [toList_length] at hlt
    rw [hz', Int.toNat_natCast] at hv
    rw [hz']
    have a1 : wrap64 ((s.size : Int) - (z : Int)) = (s.size : Int) - z := w64 (by omega) (by omega)
    have w1 : wrap64 ((wrap64 ((s.size : Int) - (z : Int))) - 1) = (s.size : Int) - z - 1 := by
      rw [a1]
      exact w64 (by omega) (by omega)
    refine Ev.congr (fun k => if_neg (by omega)) ?_
    rw [w1]
    by_cases hl : (s.size : Int) - z - 1 < 32
    · rw [if_pos (.inr hl)] at hv
      rw [decide_eq_true hl]
      exact bad _ hv
    · rw [if_neg (by omega)] at hv
      rw [decide_eq_false hl]
      have w2 : wrap64 ((z : Int) + 1) = ((z + 1 : Nat) : Int) := (w64 (by omega) (by omega)).trans (by omega)
      have w3 : wrap64 ((z : Int) + 33) = ((z + 33 : Nat) : Int) := (w64 (by omega) (by omega)).trans (by omega)
      refine Ev.step (f := fun k => pollardref06_Get.l1 k s acc z ((1 : Nat) : Int) (⟨#[]⟩ : ByteArray) 0 (s.extract (z + 1) (z + 33))) (fun k => ?_) (rwords s hs acc ha z (by omega) v ?_)
      · simp only [pollardref06_Get.j1]
        rw [if_neg (by simp), w2, w3, if_pos (by omega), if_pos (by omega), if_pos (by omega), Int.toNat_natCast, Int.toNat_natCast, show ((1 : Nat) : Int) = 1 by decide]
      · cases hm : modeOf (s.extract 0 z) with
        | none => rw [hm] at hv; exact hv
        | some p => rw [hm] at hv; exact hv
  · rw [if_pos (.inl (by omega))] at hv
    refine Ev.congr (fun k => if_pos (by omega)) (bad _ hv)
end Go.Proofs.Ytopdlgdacbonpaa.Pl
