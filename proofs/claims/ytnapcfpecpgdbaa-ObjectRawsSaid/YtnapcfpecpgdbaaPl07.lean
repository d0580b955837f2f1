/- Decimal digits both ways, and an object's bytes opened: what the program and the reference come to. -/
import Derived.Test.YtnapcfpecpgdbaaPlBytes
import Derived.Test.YtnapcfpecpgdbaaMx1
import Derived.Test.YtnapcfpecpgdbaaMx4
import Derived.Test.YtnapcfpecpgdbaaMx2
import Derived.Test.YtnapcfpecpgdbaaMx3
namespace Go.Proofs.Ytnapcfpecpgdbaa.Pl
set_option linter.unusedVariables false
set_option linter.unusedSimpArgs false
open Go.RowKit Go.Proofs.Ytnapcfpecpgdbaa.M Go.Proofs.YtnapcfpecpgdbaaW.PrintWords Go.Proofs.YtnapcfpecpgdbaaW.PrintLast

def mk (l : List UInt8) : ByteArray := ⟨l.toArray⟩
theorem toList_mk (l : List UInt8) : (mk l).toList = l := toList_lit l
theorem mk_toList (s : ByteArray) : mk s.toList = s := ba_ext (toList_mk _)
theorem mk_size (l : List UInt8) : (mk l).size = l.length := by rw [← toList_length, toList_mk]
theorem mk_append (a b : List UInt8) : mk a ++ mk b = mk (a ++ b) := ba_ext (by rw [toList_append, toList_mk, toList_mk, toList_mk])

/-- A number's decimal digits. -/
def decL (n : Nat) : List UInt8 := if n < 10 then [UInt8.ofNat (48 + n)] else decL (n / 10) ++ [UInt8.ofNat (48 + n % 10)]
termination_by n
decreasing_by omega

theorem u64w {x : Int} (h0 : 0 ≤ x) (h1 : x < 18446744073709551616) : IntKind.u64.wrap x = x := by rw [IntKind.wrap_u64]; omega

theorem ref_digit (d : Nat) (h : d < 10) : pollardref02_digit.f (d : Int) = some (mk [UInt8.ofNat (48 + d)]) := by
  unfold pollardref02_digit.f
  rw [if_pos (by omega), w64 (by omega) (by omega), strOfNums]
  have e : ((48 + (d : Int)) % 256).toNat = 48 + d := by omega
  simp only [List.map_cons, List.map_nil, e]
  rfl

theorem decL_length : ∀ (m n : Nat), n < 10 ^ m → (decL n).length ≤ m ∨ n < 10
  | 0, n, h => by simp at h; right; omega
  | m + 1, n, h => by
    by_cases h10 : n < 10
    · exact .inr h10
    · left
      rw [decL, if_neg h10, List.length_append, List.length_singleton]
      have h2 : n / 10 < 10 ^ m := by rw [Nat.pow_succ] at h; omega
      rcases decL_length m (n / 10) h2 with h3 | h3
      · omega
      · rw [decL, if_pos h3]
        cases m with
        | zero => simp at h2; omega
        | succ m => simp
theorem decL_short (n : Nat) (h : n < 18446744073709551616) : (decL n).length ≤ 20 := by
  rcases decL_length 20 n (by omega) with h | h
  · exact h
  · rw [decL, if_pos h]
    simp

theorem dec_ref (n : Nat) : n < 18446744073709551616 → Ev (fun k => pollardref02_Dec.f k (n : Int)) (mk (decL n)) := by
  induction n using Nat.strongRecOn with
  | _ n ih =>
    intro hn
    by_cases h10 : n < 10
    · refine Ev.step (f := fun _ => some (mk (decL n))) (fun k => ?_) (Ev.now _)
      rw [pollardref02_Dec.f, if_pos (by omega), w64 (by omega) (by omega), ref_digit n h10, Option.bind_some, decL, if_pos h10]
    · have hq : Int.tdiv (n : Int) 10 = ((n / 10 : Nat) : Int) := rfl
      have hr : Int.tmod (n : Int) 10 = ((n % 10 : Nat) : Int) := rfl
      refine Ev.step (f := fun k => (pollardref02_Dec.f k ((n / 10 : Nat) : Int)).bind fun t135 => some (t135 ++ mk [UInt8.ofNat (48 + n % 10)])) (fun k => ?_) ?_
      · rw [pollardref02_Dec.f, if_neg (by omega), hq, hr, u64w (by omega) (by omega), w64 (by omega) (by omega), ref_digit _ (by omega)]
        cases hd : pollardref02_Dec.f k ((n / 10 : Nat) : Int) with
        | none => rfl
        | some t =>
          obtain ⟨K, hK⟩ := ih (n / 10) (by omega) (by omega)
          have e1 := Ev.rounds ⟨K, hK⟩
          have e2 : t = mk (decL (n / 10)) := by
            have a1 := hK (K + k) (by omega)
            have a2 := at_rounds (fun k => pollardref02_Dec.mono ((n / 10 : Nat) : Int) k) (show k ≤ K + k by omega) hd
            exact Option.some.inj (a2.symm.trans a1)
          rw [Option.bind_some, Option.bind_some, Option.bind_some, if_pos]
          rw [e2, mk_size, mk_size]
          have := decL_short (n / 10) (by omega)
          simp
          omega
      · refine Ev.bind (ih (n / 10) (by omega) (by omega)) ?_
        rw [mk_append]
        have e : decL n = decL (n / 10) ++ [UInt8.ofNat (48 + n % 10)] := by rw [decL, if_neg h10]
        rw [← e]
        exact Ev.now _

theorem digit_cut (d : Nat) (h : d < 10) : (⟨#[48, 49, 50, 51, 52, 53, 54, 55, 56, 57, 97, 98, 99, 100, 101, 102]⟩ : ByteArray).extract d (d + 1) = mk [UInt8.ofNat (48 + d)] := by
  have : d = 0 ∨ d = 1 ∨ d = 2 ∨ d = 3 ∨ d = 4 ∨ d = 5 ∨ d = 6 ∨ d = 7 ∨ d = 8 ∨ d = 9 := by omega
  rcases this with rfl | rfl | rfl | rfl | rfl | rfl | rfl | rfl | rfl | rfl <;> rfl

theorem dec_l0 (n : Nat) : ∀ acc : List UInt8, acc.length ≤ 1000 → n < 10 ^ 20 → ∀ f : Nat, n < 10 ^ f → f ≤ 20 → acc.length + f ≤ 1000 → n < 18446744073709551616 → Ev (fun k => code_Dec.l0 k (n : Int) (mk acc)) (mk (decL n ++ acc)) := by
  induction n using Nat.strongRecOn with
  | _ n ih =>
    intro acc ha h20 f hf hf2 haf hn
    have hq : Int.tdiv (n : Int) 10 = ((n / 10 : Nat) : Int) := rfl
    have hr : Int.tmod (n : Int) 10 = ((n % 10 : Nat) : Int) := rfl
    have e1 : IntKind.u64.wrap (((n % 10 : Nat) : Int) + 1) = ((n % 10 + 1 : Nat) : Int) := by rw [u64w (by omega) (by omega)]; rfl
    have hsz : ∀ c : UInt8, (mk [c]).size + (mk acc).size ≤ 9223372036854775807 := fun c => by rw [mk_size, mk_size, List.length_singleton]; omega
    have step : ∀ k, code_Dec.l0 (k + 1) (n : Int) (mk acc) = if ((n / 10 : Nat) : Int) = 0 then some (mk (UInt8.ofNat (48 + n % 10) :: acc)) else code_Dec.l0 k ((n / 10 : Nat) : Int) (mk (UInt8.ofNat (48 + n % 10) :: acc)) := by
      intro k
      rw [code_Dec.l0, hq, hr, e1, u64w (x := ((n / 10 : Nat) : Int)) (by omega) (by omega), if_pos (by omega), if_pos (by omega), if_pos (by omega)]
      rw [Int.toNat_natCast, Int.toNat_natCast, digit_cut _ (by omega), if_pos (hsz _), mk_append]
      rfl
    by_cases h10 : n < 10
    · refine Ev.step (f := fun _ => some (mk (decL n ++ acc))) (fun k => ?_) (Ev.now _)
      rw [step, if_pos (by omega), decL, if_pos h10, Nat.mod_eq_of_lt h10]
      rfl
    · refine Ev.step (f := fun k => code_Dec.l0 k ((n / 10 : Nat) : Int) (mk (UInt8.ofNat (48 + n % 10) :: acc))) (fun k => ?_) ?_
      · rw [step, if_neg (by omega)]
      · have e : decL n = decL (n / 10) ++ [UInt8.ofNat (48 + n % 10)] := by rw [decL, if_neg h10]
        rw [e, List.append_assoc]
        cases f with
        | zero => simp at hf; omega
        | succ f =>
          exact ih (n / 10) (by omega) _ (by simp only [List.length_cons]; omega) (by omega) f (by rw [Nat.pow_succ] at hf; omega) (by omega) (by simp only [List.length_cons]; omega) (by omega)
theorem dec_prog (n : Nat) (h : n < 18446744073709551616) : Ev (fun k => code_Dec.f k (n : Int)) (mk (decL n)) := by
  have := dec_l0 n [] (by simp) (by omega) 20 (by omega) (by omega) (by simp) h
  rw [List.append_nil] at this
  exact this

end Go.Proofs.Ytnapcfpecpgdbaa.Pl
