/- So many names a path may have, and no more. Conditions: none. -/
import Derived.Test.YtcgdpaaemiecgaaDoorMx2
import Derived.Test.YtcgdpaaemiecgaaDoorPl05d
import Derived.Test.YtcgdpaaemiecgaaDoorPlBits
namespace Go.Proofs.YtcgdpaaemiecgaaDoor.Pure
set_option linter.unusedVariables false
open Go.RowKit Go.Proofs.YtcgdpaaemiecgaaDoor.M Go.Proofs.YtcgdpaaemiecgaaDoorW.PrintWords Go.Proofs.YtcgdpaaemiecgaaDoorW.PrintLast Go.Proofs.YtcgdpaaemiecgaaDoor.Pl

def rp : Nat → List UInt8
  | 0 => []
  | n + 1 => 47 :: 98 :: rp n
theorem rp_snoc : ∀ n, rp n ++ [47, 98] = rp (n + 1)
  | 0 => rfl
  | n + 1 => by rw [rp, List.cons_append, List.cons_append, rp_snoc n]; rfl
theorem rp_length : ∀ n, (rp n).length = 2 * n
  | 0 => rfl
  | n + 1 => by rw [rp, List.length_cons, List.length_cons, rp_length n]; omega
theorem rp_sp0 : ∀ (n : Nat) (acc : List UInt8), sp0 47 acc (rp n) = acc :: List.replicate n [98]
  | 0, acc => rfl
  | n + 1, acc => by
    rw [rp, sp0, if_pos rfl, sp0, if_neg (by decide), List.nil_append, rp_sp0 n, List.replicate_succ]
theorem deep_path (t : ByteArray) (n : Nat) (ht : t.toList = 97 :: rp n) : path t = if 64 < n + 1 then ([], 3) else (mk [97] :: List.replicate n (mk [98]), 0) := by
  have e : (sp0 47 [] t.toList).map mk = mk [97] :: List.replicate n (mk [98]) := by
    rw [ht, sp0, if_neg (by decide), List.nil_append, rp_sp0, List.map_cons, List.map_replicate]
  unfold path told
  rw [e]
  have hl : (mk [97] :: List.replicate n (mk [98])).length = n + 1 := by simp
  rw [hl]
  by_cases h : 64 < n + 1
  · rw [if_pos h, if_pos h]
  · rw [if_neg h, if_neg h, if_pos]
    rw [List.drop_zero, List.all_cons]
    have h1 : nameB (mk [97]) = true := by decide +kernel
    have h2 : nameB (mk [98]) = true := by decide +kernel
    rw [h1, Bool.true_and, List.all_eq_true]
    intro x hx
    rw [List.eq_of_mem_replicate hx]
    exact h2

theorem deep_l0 (m : Nat) (hm : m ≤ 127) : ∀ (n i : Nat) (t : ByteArray), m - i = n → i ≤ m → t.toList = 97 :: rp i → Ev (fun k => pollardlaw05_LabelDeep.l0 k t (m : Int) (i : Int)) true := by
  intro n
  induction n with
  | zero =>
    intro i t hn hi ht
    obtain rfl : i = m := by omega
    have hsz : t.size = 2 * i + 1 := by rw [← toList_length, ht, List.length_cons, rp_length]
    have hw : wrap64 ((i : Int) + 1) = ((i + 1 : Nat) : Int) := (w64 (by omega) (by omega)).trans (by omega)
    have hp := prog_split t (by omega)
    rw [deep_path t i ht] at hp
    by_cases h : 64 < i + 1
    · rw [if_pos h] at hp
      refine Ev.step (f := fun k => (label_Split.f k t).bind fun bt118 => if bt118.2 = 3 then (some ((bt118.1.length : Int) == 0)) else (some false)) (fun k => ?_) (Ev.bind hp ?_)
      · simp only [pollardlaw05_LabelDeep.l0]
        rw [if_neg (by omega), hw]
        congr 1
        funext bt118
        rw [if_pos (by omega), awake05, Option.bind_some, if_pos (by trivial)]
      · exact Ev.congr (fun k => if_pos rfl) (Ev.now _)
    · rw [if_neg h] at hp
      refine Ev.step (f := fun k => (label_Split.f k t).bind fun bt118 => if bt118.2 = 0 then (some ((bt118.1.length : Int) == ((i + 1 : Nat) : Int))) else (some false)) (fun k => ?_) (Ev.bind hp ?_)
      · simp only [pollardlaw05_LabelDeep.l0]
        rw [if_neg (by omega), hw]
        congr 1
        funext bt118
        rw [if_neg (by omega), awake05, Option.bind_some, if_pos (by trivial)]
      · refine Ev.congr (fun k => (if_pos rfl).trans ?_) (Ev.now true)
        rw [List.length_cons, List.length_replicate, beq_self_eq_true]
  | succ n ih =>
    intro i t hn hi ht
    have hsz : t.size = 2 * i + 1 := by rw [← toList_length, ht, List.length_cons, rp_length]
    refine Ev.step (f := fun k => pollardlaw05_LabelDeep.l0 k (t ++ (⟨#[47, 98]⟩ : ByteArray)) (m : Int) ((i + 1 : Nat) : Int)) (fun k => ?_) (ih (i + 1) _ (by omega) (by omega) ?_)
    · simp only [pollardlaw05_LabelDeep.l0]
      rw [if_pos (by omega), if_pos (by omega)]
      rw [(w64 (by omega) (by omega)).trans (show (i : Int) + 1 = ((i + 1 : Nat) : Int) by omega)]
    · rw [toList_append, ht, List.cons_append, show (⟨#[47, 98]⟩ : ByteArray).toList = [47, 98] from toList_lit [47, 98], rp_snoc]

theorem LabelDeep : pollardlaw05_LabelDeep.Pure := by
  intro n hn
  refine Ev.rounds (g := fun k => pollardlaw05_LabelDeep.f k n) ?_
  unfold pollardlaw05_LabelDeep.f
  obtain ⟨m, hm, h⟩ : ∃ m : Nat, m ≤ 127 ∧ Go.bits .and .i64 n 127 = (m : Int) := by
    have h : Go.bits .and .i64 n 127 = n % 128 := and_low 7 (by decide) n
    exact ⟨(n % 128).toNat, by omega, by rw [h]; omega⟩
  rw [h]
  exact deep_l0 m hm m 0 _ (by omega) (by omega) (toList_lit [97])
end Go.Proofs.YtcgdpaaemiecgaaDoor.Pure
