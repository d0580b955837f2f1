/- So many lines a text may have, and no more. Conditions: none. -/
import Derived.Test.YtflogdjehghkpaaDoorMx9
import Derived.Test.YtflogdjehghkpaaDoorMx8
import Derived.Test.YtflogdjehghkpaaDoorMx5
import Derived.Test.YtflogdjehghkpaaDoorPl18c
import Derived.Test.YtflogdjehghkpaaDoorPlBits
namespace Go.Proofs.YtflogdjehghkpaaDoor.Pure
set_option linter.unusedVariables false
open Go.RowKit Go.Proofs.YtflogdjehghkpaaDoor.M Go.Proofs.YtflogdjehghkpaaDoorW.PrintWords Go.Proofs.YtflogdjehghkpaaDoorW.PrintLast Go.Proofs.YtflogdjehghkpaaDoor.Pl

theorem awakeMuch : Ev (fun k => pollardlaw18_awake.f k) true := Ev.of (fun k => pollardlaw18_awake.mono k) (k := 60) (by decide +kernel)
theorem com_self : ∀ l : List ByteArray, com l l = l.length
  | [] => by simp [com]
  | x :: l => by rw [com, if_pos rfl, com_self l, List.length_cons]
theorem over {a b : List ByteArray} (h : 400 < a.length ∨ 400 < b.length) : Ev (fun k => diff_Pairs.f k a b) (([] : List S35), 3) := by
  refine Ev.congr (f := fun k => diff_Pairs.j0 k a b true) (fun k => ?_) ?_
  · unfold diff_Pairs.f
    by_cases h1 : (a.length : Int) > 400
    · rw [if_pos h1]
    · rw [if_neg h1, decide_eq_true (by omega)]
  · refine Ev.step (f := fun _ => some (([] : List S35), 3)) (fun k => ?_) (Ev.now _)
    simp only [diff_Pairs.j0]
    rw [if_pos (by trivial)]
theorem within {a b : List ByteArray} (ha : a.length ≤ 400) (hb : b.length ≤ 400) : ∃ L : List S35, (L.length : Int) = cm a b 0 0 ∧ Ev (fun k => diff_Pairs.f k a b) (L, 0) := by
  have h := Nat.mul_le_mul (show a.length + 1 ≤ 401 by omega) (show b.length + 1 ≤ 401 by omega)
  refine ⟨_, ?_, prog_pairs (by omega) (by omega) (by omega) ha hb⟩
  rw [List.length_map]
  exact prs_length a b (a.length + b.length + 1) 0 0 (by omega)
theorem bare_empty : strings_TrimSuffix.f (⟨#[]⟩ : ByteArray) (⟨#[10]⟩ : ByteArray) = some (⟨#[]⟩ : ByteArray) := by decide +kernel
theorem put_size (sign : ByteArray) (hs : sign.size = 1) : ∀ (m : Nat) (s : ByteArray), s.size + 2 * m ≤ 1000000 → ∃ r, diff_Show.put sign (List.replicate m (⟨#[]⟩ : ByteArray)) s = some r ∧ r.size = s.size + 2 * m
  | 0, s, h => ⟨s, rfl, rfl⟩
  | m + 1, s, h => by
    have e0 : (⟨#[]⟩ : ByteArray).size = 0 := rfl
    have e1 : (⟨#[10]⟩ : ByteArray).size = 1 := rfl
    have hz : (s ++ (sign ++ (⟨#[]⟩ : ByteArray) ++ (⟨#[10]⟩ : ByteArray))).size = s.size + 2 := by
      rw [ByteArray.size_append, ByteArray.size_append, ByteArray.size_append, e0, e1, hs]
    obtain ⟨r, h1, h2⟩ := put_size sign hs m (s ++ (sign ++ (⟨#[]⟩ : ByteArray) ++ (⟨#[10]⟩ : ByteArray))) (by omega)
    refine ⟨r, ?_, by omega⟩
    rw [List.replicate_succ, diff_Show.put, bare_empty, Option.bind_some, e0, hs, if_pos (by omega)]
    exact h1
theorem show_empty (m : Nat) (hm : m ≤ 400) : ∃ r, r.size = 2 * m ∧ Ev (fun k => diff_Show.f k (List.replicate m (⟨#[]⟩ : ByteArray)) ([] : List ByteArray)) (r, 0) := by
  obtain ⟨L, hL, hE⟩ := within (a := List.replicate m (⟨#[]⟩ : ByteArray)) (b := []) (by rw [List.length_replicate]; exact hm) (by simp)
  have h0 : L = [] := by
    rw [cm_end2 (by simp)] at hL
    exact List.eq_nil_of_length_eq_zero (by omega)
  subst h0
  have e0 : (⟨#[]⟩ : ByteArray).size = 0 := rfl
  obtain ⟨r, h1, h2⟩ := put_size (⟨#[45]⟩ : ByteArray) rfl m (⟨#[]⟩ : ByteArray) (by rw [e0]; omega)
  refine ⟨r, by rw [h2, e0]; omega, ?_⟩
  unfold diff_Show.f
  refine Ev.bind hE ?_
  refine Ev.congr (fun k => ?_) (Ev.now (r, (0 : Int)))
  have hc : diff_Show.cut (List.replicate m (⟨#[]⟩ : ByteArray)) 0 (m : Int) = List.replicate m (⟨#[]⟩ : ByteArray) := by
    unfold diff_Show.cut
    rw [Int.toNat_natCast, List.take_of_length_le (by rw [List.length_replicate]; exact Nat.le_refl _)]
    rfl
  have hg : diff_Show.go (List.replicate m (⟨#[]⟩ : ByteArray)) [] [(⟨(m : Int), 0⟩ : S35)] 0 0 (⟨#[]⟩ : ByteArray) = some r := by
    simp only [diff_Show.go, List.length_replicate, List.length_nil]
    rw [if_pos (by omega), hc, h1, Option.bind_some]
    have hp : diff_Show.put (⟨#[43]⟩ : ByteArray) (diff_Show.cut ([] : List ByteArray) 0 0) r = some r := rfl
    rw [hp, Option.bind_some, if_neg (by omega)]
  rw [if_pos rfl, if_pos ⟨by simp, by rw [List.length_replicate]; omega, by simp⟩, List.nil_append, List.length_replicate]
  have hz : (([] : List ByteArray).length : Int) = 0 := rfl
  rw [hz, hg]
  rfl

theorem DiffMuch : ∀ (a0 : Int), (Lit.int .i64 a0).wf = true → ∃ k, pollardlaw18_DiffMuch.f k a0 = some true := by
  intro n hn
  refine Ev.rounds (g := fun k => pollardlaw18_DiffMuch.f k n) ?_
  unfold pollardlaw18_DiffMuch.f
  obtain ⟨m, hm1, hm2, h⟩ : ∃ m : Nat, 398 ≤ m ∧ m ≤ 401 ∧ wrap64 (398 + Go.bits .and .i64 n 3) = (m : Int) := by
    have h : Go.bits .and .i64 n 3 = n % 4 := and_low 2 (by decide) n
    refine ⟨(398 + n % 4).toNat, by omega, by omega, ?_⟩
    rw [h, w64 (by omega) (by omega)]
    omega
  rw [h]
  have hl : (List.replicate m (⟨#[]⟩ : ByteArray)).length = m := List.length_replicate
  have hw : wrap64 (2 * (m : Int)) = 2 * (m : Int) := w64 (by omega) (by omega)
  rw [hw]
  by_cases hk : (m : Int) > 400
  · have e1 := over (a := List.replicate m (⟨#[]⟩ : ByteArray)) (b := List.replicate m (⟨#[]⟩ : ByteArray)) (.inl (by omega))
    have e2 : Ev (fun k => diff_Show.f k (List.replicate m (⟨#[]⟩ : ByteArray)) ([] : List ByteArray)) ((⟨#[]⟩ : ByteArray), 3) := by
      unfold diff_Show.f
      exact Ev.bind (over (.inl (by omega))) (Ev.congr (fun k => if_neg (by decide)) (Ev.now _))
    have e3 := over (a := ([] : List ByteArray)) (b := List.replicate m (⟨#[]⟩ : ByteArray)) (.inr (by omega))
    refine Ev.congr (fun k => by rw [if_pos (by omega), Int.toNat_natCast, if_pos (by omega), Option.bind_some]) ?_
    refine Ev.bind e1 ?_
    refine Ev.bind e2 ?_
    refine Ev.bind e3 ?_
    refine Ev.congr (fun k => if_pos hk) ?_
    refine Ev.bind awakeMuch ?_
    refine Ev.congr (fun k => ?_) (Ev.now true)
    rw [if_pos rfl, if_pos rfl, if_pos rfl, if_pos rfl, if_pos (show ((([] : List S35).length : Int)) = 0 from rfl), if_pos toList_nil]
    rfl
  · obtain ⟨L1, h1, e1⟩ := within (a := List.replicate m (⟨#[]⟩ : ByteArray)) (b := List.replicate m (⟨#[]⟩ : ByteArray)) (by omega) (by omega)
    obtain ⟨r, h2, e2⟩ := show_empty m (by omega)
    obtain ⟨L3, h3, e3⟩ := within (a := ([] : List ByteArray)) (b := List.replicate m (⟨#[]⟩ : ByteArray)) (by simp) (by omega)
    have g1 : (L1.length : Int) = (m : Int) := by
      rw [h1]
      unfold cm
      rw [List.drop_zero, com_self, hl]
    have g2 : (r.size : Int) = 2 * (m : Int) := by omega
    have g3 : (L3.length : Int) = 0 := by rw [h3, cm_end1 (by simp)]
    refine Ev.congr (fun k => by rw [if_pos (by omega), Int.toNat_natCast, if_pos (by omega), Option.bind_some]) ?_
    refine Ev.bind e1 ?_
    refine Ev.bind e2 ?_
    refine Ev.bind e3 ?_
    refine Ev.congr (fun k => if_neg hk) ?_
    refine Ev.bind awakeMuch ?_
    refine Ev.congr (fun k => ?_) (Ev.now true)
    rw [if_pos rfl, if_pos rfl, if_pos rfl, if_pos rfl, if_pos g1, if_pos g2, g3]
    rfl
end Go.Proofs.YtflogdjehghkpaaDoor.Pure
