/- Chunks have all lines of all three texts, in their order; such as nobody changed have the same three times, and of two that follow one another at most one is such. Conditions: none. -/
import Derived.Test.YthdmioocgofaeaaDoorMx8
import Derived.Test.YthdmioocgofaeaaDoorPl19d
import Derived.Test.YthdmioocgofaeaaDoorPl19s
import Derived.Test.YthdmioocgofaeaaDoorPl19a
import Derived.Test.YthdmioocgofaeaaDoorPlCut
namespace Go.Proofs.YthdmioocgofaeaaDoor.Pure
set_option linter.unusedVariables false
set_option linter.unusedSimpArgs false
open Go.RowKit Go.Proofs.YthdmioocgofaeaaDoor.M Go.Proofs.YthdmioocgofaeaaDoorW.PrintWords Go.Proofs.YthdmioocgofaeaaDoorW.PrintLast Go.Proofs.YthdmioocgofaeaaDoor.Pl

theorem rdC (L : List Chk) (i : Nat) (h : i < L.length) : rd_T30 (L.map asP) (i : Int) = asP (L[i]'h) := by
  unfold rd_T30
  rw [Int.toNat_natCast, List.getD, List.getElem?_eq_getElem (by rw [List.length_map]; exact h), Option.getD_some, List.getElem_map]
theorem apart_at : ∀ (L : List Chk), apart L → ∀ (i : Nat) (h : i + 1 < L.length), (L[i]'(by omega)).1 = 1 → (L[i + 1]'h).1 ≠ 1
  | [], _, i, h, _ => absurd h (by simp)
  | c :: L, ha, 0, h, h1 => by
    simp only [List.length_cons] at h
    refine ha.1 h1 _ ?_
    rw [List.head?_eq_getElem?, List.getElem?_eq_getElem (show 0 < L.length by omega)]
    rfl
  | c :: L, ha, i + 1, h, h1 => by
    simp only [List.length_cons] at h
    exact apart_at L ha.2 i (by omega) h1
theorem flat_take (g : Chk → List ByteArray) (L : List Chk) (i : Nat) (h : i < L.length) : (L.take (i + 1)).flatMap g = (L.take i).flatMap g ++ g (L[i]'h) := by
  rw [List.take_add_one, List.getElem?_eq_getElem h, List.flatMap_append]
  simp
theorem flat_short (g : Chk → List ByteArray) (L : List Chk) (i : Nat) : ((L.take i).flatMap g).length ≤ (L.flatMap g).length := by
  conv => rhs; rw [← List.take_append_drop i L, List.flatMap_append, List.length_append]
  omega
theorem covers_l0 (B O T : List ByteArray) (L : List Chk) (hB : B.length ≤ 400) (hO : O.length ≤ 400) (hT : T.length ≤ 400) (hL : L.length ≤ 1200) (hc : ∀ c ∈ L, Ck c) (ha : apart L) (h1 : L.flatMap (·.2.1) = B) (h2 : L.flatMap (·.2.2.1) = O) (h3 : L.flatMap (·.2.2.2) = T) : ∀ (n i : Nat), L.length - i = n → i ≤ L.length →
    Ev (fun k => pollardlaw19_MergeCovers.l0 k B O T (L.map asP) ((L.take i).flatMap (·.2.1)) ((L.take i).flatMap (·.2.2.1)) ((L.take i).flatMap (·.2.2.2)) (i : Int)) true := by
  intro n
  induction n with
  | zero =>
    intro i hn hi
    obtain rfl : i = L.length := by omega
    have s1 := same_f B B (by omega)
    have s2 := same_f O O (by omega)
    have s3 := same_f T T (by omega)
    rw [decide_eq_true rfl] at s1 s2 s3
    rw [List.take_length, h1, h2, h3]
    refine Ev.step (f := fun k => (pollardref19_Same.f k B B).bind fun t236 => (if t236 = true then ((pollardref19_Same.f k O O).bind fun t237 => (if t237 = true then ((pollardref19_Same.f k T T).bind fun t238 => (some t238)) else (none))) else (none))) (fun k => ?_) (Ev.bind (a := true) s1 ?_)
    · simp only [pollardlaw19_MergeCovers.l0, List.length_map]
      rw [if_neg (by omega)]
    · refine Ev.congr (fun k => if_pos rfl) (Ev.bind (a := true) s2 ?_)
      refine Ev.congr (fun k => if_pos rfl) (Ev.bind (a := true) s3 (Ev.now _))
  | succ n ih =>
    intro i hn hi
    have hlt : i < L.length := by omega
    have r0 := rdC L i hlt
    have t1 := flat_take (·.2.1) L i hlt
    have t2 := flat_take (·.2.2.1) L i hlt
    have t3 := flat_take (·.2.2.2) L i hlt
    have z1 := flat_short (·.2.1) L (i + 1)
    have z2 := flat_short (·.2.2.1) L (i + 1)
    have z3 := flat_short (·.2.2.2) L (i + 1)
    rw [t1, List.length_append, h1] at z1
    rw [t2, List.length_append, h2] at z2
    rw [t3, List.length_append, h3] at z3
    have hl := ih (i + 1) (by omega) (by omega)
    rw [t1, t2, t3] at hl
    have hck := hc (L[i]'hlt) (List.getElem_mem hlt)
    have hap : ∀ (j : Nat) (e : i = j + 1), (L[i]'hlt).1 = 1 → ¬ (asP (L[j]'(by omega))).f0 = 1 := fun j e h h2 => by
      subst e
      exact apart_at L ha j hlt h2 h
    generalize L[i]'hlt = c at *
    generalize (L.take i).flatMap (·.2.1) = F1 at *
    generalize (L.take i).flatMap (·.2.2.1) = F2 at *
    generalize (L.take i).flatMap (·.2.2.2) = F3 at *
    have s1 := same_f c.2.1 c.2.2.1 (by omega)
    have s2 := same_f c.2.1 c.2.2.2 (by omega)
    have e : ∀ X : Option Bool, (if (i : Int) > 0 then (if (asP c).f0 = 1 then (if 0 ≤ (wrap64 ((i : Int) - 1)) then (if (wrap64 ((i : Int) - 1)) < (L.length : Int) then (if ((rd_T30 (L.map asP) (wrap64 ((i : Int) - 1))).f0) = 1 then (none) else X) else (none)) else (none)) else X) else X) = X := by
      intro X
      by_cases h0 : (i : Int) > 0
      · rw [if_pos h0]
        by_cases h4 : (asP c).f0 = 1
        · rw [if_pos h4, w64 (by omega) (by omega), if_pos (by omega), if_pos (by omega)]
          obtain ⟨j, rfl⟩ : ∃ j, i = j + 1 := ⟨i - 1, by omega⟩
          have r1 := rdC L j (by omega)
          have e0 : ((j + 1 : Nat) : Int) - 1 = (j : Int) := by omega
          rw [e0, r1, if_neg (hap j rfl h4)]
        · rw [if_neg h4]
      · rw [if_neg h0]
    refine Ev.step (f := fun k => (pollardref19_Same.f k (asP c).f1 (asP c).f2).bind fun t253 => (if t253 = true then ((pollardref19_Same.f k (asP c).f1 (asP c).f3).bind fun t256 => (if (((asP c).f0 == 1) != t256) = true then (none) else (pollardlaw19_MergeCovers.l0 k B O T (L.map asP) (F1 ++ c.2.1) (F2 ++ c.2.2.1) (F3 ++ c.2.2.2) ((i + 1 : Nat) : Int)))) else (if (((asP c).f0 == 1) != false) = true then (none) else (pollardlaw19_MergeCovers.l0 k B O T (L.map asP) (F1 ++ c.2.1) (F2 ++ c.2.2.1) (F3 ++ c.2.2.2) ((i + 1 : Nat) : Int))))) (fun k => ?_) ?_
    · simp only [pollardlaw19_MergeCovers.l0, List.length_map]
      rw [if_pos (by omega), if_pos (by omega), r0, if_pos (show F1.length + (asP c).f1.length < 8796093022208 from (show F1.length + c.2.1.length < 8796093022208 by omega)), Option.bind_some, if_pos (show F2.length + (asP c).f2.length < 8796093022208 from (show F2.length + c.2.2.1.length < 8796093022208 by omega)), Option.bind_some, if_pos (show F3.length + (asP c).f3.length < 8796093022208 from (show F3.length + c.2.2.2.length < 8796093022208 by omega)), Option.bind_some, w64s (by omega)]
      simp only [e]
      rfl
    · rcases hck with ⟨k1, k2, k3⟩ | ⟨k1, k2⟩
      · rw [decide_eq_true k2] at s1
        rw [decide_eq_true k3] at s2
        refine Ev.bind (a := true) s1 ?_
        refine Ev.congr (fun k => if_pos rfl) (Ev.bind (a := true) s2 ?_)
        have b1 : ((asP c).f0 == 1) = true := beq_iff_eq.mpr k1
        refine Ev.congr (fun k => if_neg (by rw [b1]; simp)) hl
      · have b1 : ((asP c).f0 == 1) = false := beq_eq_false_iff_ne.mpr (show c.1 ≠ 1 by rw [k1]; exact kindOf_ne _ _ _)
        by_cases k3 : c.2.1 = c.2.2.1
        · rw [decide_eq_true k3] at s1
          rw [decide_eq_false (fun h => k2 ⟨k3, h⟩)] at s2
          refine Ev.bind (a := true) s1 ?_
          refine Ev.congr (fun k => if_pos rfl) (Ev.bind (a := false) s2 ?_)
          refine Ev.congr (fun k => if_neg (by rw [b1]; simp)) hl
        · rw [decide_eq_false k3] at s1
          refine Ev.bind (a := false) s1 ?_
          refine Ev.congr (fun k => if_neg (by simp)) ?_
          refine Ev.congr (fun k => if_neg (by rw [b1]; simp)) hl

theorem MergeCovers : ∀ (l0 : List ByteArray) (l1 : List ByteArray) (l2 : List ByteArray), l0.length * Tryd.prog.bytesOf 9 ≤ 140737488351232 → (∀ x ∈ l0, x.size ≤ 140737488351232) → l1.length * Tryd.prog.bytesOf 9 ≤ 140737488351232 → (∀ x ∈ l1, x.size ≤ 140737488351232) → l2.length * Tryd.prog.bytesOf 9 ≤ 140737488351232 → (∀ x ∈ l2, x.size ≤ 140737488351232) → ∃ k, pollardlaw19_MergeCovers.f k l0 l1 l2 = some true := by
  intro l0 l1 l2 _ _ _ _ _ _
  obtain ⟨x, cx, hx⟩ := cut18 l0
  obtain ⟨y, cy, hy⟩ := cut18 l1
  obtain ⟨z, cz, hz⟩ := cut18 l2
  have q1 := prog_chunks x y z (by omega) (by omega) (by omega)
  obtain ⟨f1, f2, f3, f4, f5, f6⟩ := chunks_facts x y z
  generalize chunks x y z = L at *
  have hl := covers_l0 x y z L (by omega) (by omega) (by omega) (by omega) f1 f2 f3 f4 f5 L.length 0 (by omega) (by omega)
  rw [List.take_zero] at hl
  refine Ev.rounds (g := fun k => pollardlaw19_MergeCovers.f k l0 l1 l2) ?_
  unfold pollardlaw19_MergeCovers.f
  rw [cx, cy, cz]
  refine Ev.congr (fun k => (Option.bind_some _ _).trans ((Option.bind_some _ _).trans (Option.bind_some _ _))) ?_
  refine Ev.bind q1 ?_
  refine Ev.bind awake19 ?_
  refine Ev.congr (fun k => if_pos rfl) ?_
  refine ev_to ⟨fun k => pollardlaw19_MergeCovers.l0 k x y z (L.map asP) [] [] [] ((0 : Nat) : Int), fun k => ?_, hl⟩
  simp only [pollardlaw19_MergeCovers.j0]
  rw [if_neg (by simp)]
  rfl
end Go.Proofs.YthdmioocgofaeaaDoor.Pure
