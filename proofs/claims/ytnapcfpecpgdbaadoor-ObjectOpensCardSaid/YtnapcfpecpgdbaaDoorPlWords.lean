/- How many runes a text has: as the document has it. -/
import Derived.Test.YtnapcfpecpgdbaaDoorMx17
import Derived.Test.YtnapcfpecpgdbaaDoorMx7
import Derived.Test.YtnapcfpecpgdbaaDoorPlUtf8
namespace Go.Proofs.YtnapcfpecpgdbaaDoor.Pl
open Go.RowKit Go.Proofs.YtnapcfpecpgdbaaDoor.M Go.Proofs.YtnapcfpecpgdbaaDoorW.PrintWords Go.Proofs.YtnapcfpecpgdbaaDoorW.PrintLast

/-- The three bytes of U+FFFD stand there, or not. -/
theorem hp3 (t : ByteArray) : strings_HasPrefix.f t (⟨#[239, 191, 189]⟩ : ByteArray) = some (decide (3 ≤ t.size ∧ t.get! 0 = 239 ∧ t.get! 1 = 191 ∧ t.get! 2 = 189)) := by
 unfold strings_HasPrefix.f sl_HasPrefix.f
 have h3 : (⟨#[239, 191, 189]⟩ : ByteArray).size = 3 := rfl
 rw [h3]
 by_cases h : (t.size : Int) ≥ ((3 : Nat) : Int)
 ·
  rw [if_pos h, if_pos (by omega), if_pos (by omega)]
  simp only [Option.bind_some]
  congr 1
  have e : (t.extract 0 (((3 : Nat) : Int)).toNat).toList = [t.get! 0, t.get! 1, t.get! 2] := by
   rw [toList_eq, extract_data]
   have g0 := get_data t 0 (by omega)
   have g1 := get_data t 1 (by omega)
   have g2 := get_data t 2 (by omega)
   rw [Array.toList_extract]
   generalize t.data.toList = l at *
   match l, g0, g1, g2 with
   | a :: b :: c :: r, g0, g1, g2 =>
    simp at g0 g1 g2
    simp [List.extract, g0, g1, g2]
  rw [e, toList_eq]
  rw [Bool.eq_iff_iff]
  simp
  omega
 · rw [if_neg h]
   simp only [Option.bind_some]
   congr 1
   simp
   omega

theorem is_lost (s : ByteArray) (pos : Nat) (h : pos < s.size) :
 (((Utf8.decode s pos).1 : Int) = 65533 ∧ strings_HasPrefix.f (s.extract pos s.size) (⟨#[239, 191, 189]⟩ : ByteArray) = some false) ↔ Utf8.decode s pos = (65533, 1) := by
 rw [hp3, Option.some.injEq, decide_eq_false_iff_not, extract_size, get_extract, get_extract, get_extract]
 have d := decode_decB s pos
 have u0 : ∀ a b : UInt8, a = b ↔ a.toNat = b.toNat := fun a b => UInt8.toNat_inj.symm
 rw [u0, u0, u0]
 have l0 := (s.get! (pos + 0)).toNat_lt
 have l1 := (s.get! (pos + 1)).toNat_lt
 have l2 := (s.get! (pos + 2)).toNat_lt
 have l3 := (s.get! (pos + 3)).toNat_lt
 generalize (s.get! (pos + 0)).toNat = b0 at *
 generalize (s.get! (pos + 1)).toNat = b1 at *
 generalize (s.get! (pos + 2)).toNat = b2 at *
 generalize (s.get! (pos + 3)).toNat = b3 at *
 rw [d]
 have n0 : 0 < s.size - pos := by omega
 generalize s.size - pos = n at *
 rw [show (239 : UInt8).toNat = 239 from rfl, show (191 : UInt8).toNat = 191 from rfl, show (189 : UInt8).toNat = 189 from rfl]
 have key : decB n b0 b1 b2 b3 = (65533, 1) ∨ (decB n b0 b1 b2 b3).1 ≠ 65533 ∧ ¬ (3 ≤ n ∧ b0 = 239 ∧ b1 = 191 ∧ b2 = 189) ∨ (decB n b0 b1 b2 b3) = (65533, 3) ∧ (3 ≤ n ∧ b0 = 239 ∧ b1 = 191 ∧ b2 = 189) := by
  have f := fstB_decB n b0 b1 b2 b3 l0 l1 l2 l3
  by_cases hb : decB n b0 b1 b2 b3 = (65533, 1)
  · exact .inl hb
  right
  rw [if_neg hb] at f
  have f1 := congrArg Prod.fst f
  have f2 := congrArg Prod.snd f
  by_cases h1 : (decB n b0 b1 b2 b3).1 = 65533
  ·
   right
   rw [h1] at f1
   have : (decB n b0 b1 b2 b3).2 = 3 ∧ (3 ≤ n ∧ b0 = 239 ∧ b1 = 191 ∧ b2 = 189) := by
    clear f h1 hb
    unfold fstB at f1 f2
    split at f1
    · simp at f1; omega
    rename_i c0
    rw [if_neg c0] at f2
    split at f1
    · rename_i c1
      rw [if_pos c1] at f2
      split at f1
      · simp at f1; omega
      · simp at f1
    rename_i c1
    rw [if_neg c1] at f2
    split at f1
    · rename_i c2
      rw [if_pos c2] at f2
      split at f1
      · rename_i c3
        rw [if_pos c3] at f2
        simp at f1 f2
        omega
      · simp at f1
    rename_i c2
    split at f1
    · split at f1
      · simp at f1; omega
      · simp at f1
    · simp at f1
   exact ⟨Prod.ext h1 this.1, this.2⟩
  · left
    refine ⟨h1, ?_⟩
    rintro ⟨h3, rfl, rfl, rfl⟩
    apply h1
    unfold decB
    rw [if_neg (by omega), if_neg (by simp), if_pos (by simp; omega), if_pos (by decide)]
 have key2 : (3 ≤ n ∧ b0 = 239 ∧ b1 = 191 ∧ b2 = 189) → decB n b0 b1 b2 b3 = (65533, 3) := by
  rintro ⟨h3, rfl, rfl, rfl⟩
  unfold decB
  rw [if_neg (by omega), if_neg (by simp), if_pos (by simp; omega), if_pos (by decide)]
 rcases key with k | ⟨k, k2⟩ | ⟨k, k2⟩
 · rw [k]
   constructor
   · intro _
     rfl
   · intro _
     refine ⟨rfl, fun hh => ?_⟩
     rw [key2 hh] at k
     simp at k
 · constructor
   · rintro ⟨hh, _⟩
     omega
   · intro hh
     rw [hh] at k
     simp at k
 · rw [k]
   simp [k2]

theorem words_go (s : ByteArray) (hs : s.size ≤ 140737488351232) (fuel : Nat) : ∀ (pos : Nat) (R B : Int), pos ≤ s.size → s.size ≤ pos + fuel → 0 ≤ R → 0 ≤ B → R + B ≤ pos →
 Ev (fun k => r5_Words.l0 k (s.extract pos s.size) R B) (label_Words.go s fuel pos R B) := by
 induction fuel with
 | zero =>
  intro pos R B h1 h2 _ _ _
  refine Ev.step (f := fun _ => some (R, B)) (fun k => ?_) (Ev.now _)
  simp only [r5_Words.l0]
  rw [if_neg (by rw [extract_size]; omega)]
 | succ fuel ih =>
  intro pos R B h1 h2 hR hB hRB
  by_cases hp : pos < s.size
  ·
   have hf := decode_fits s pos hp
   have hd := decode_pos s pos
   have il := is_lost s pos hp
   have fd := first_dec s pos hp hs
   simp only [label_Words.go]
   rw [if_pos hp]
   refine Ev.step (f := fun k => (r5_first.f k (s.extract pos s.size)).bind fun bt109 => (if bt109.1 < 0 then (if 0 ≤ bt109.2 then (if bt109.2 ≤ ((s.extract pos s.size).size : Int) then (r5_Words.l0 k ((s.extract pos s.size).extract (bt109.2 : Int).toNat (s.extract pos s.size).size) R (wrap64 (B + 1))) else (none)) else (none)) else (if 0 ≤ bt109.2 then (if bt109.2 ≤ ((s.extract pos s.size).size : Int) then (r5_Words.l0 k ((s.extract pos s.size).extract (bt109.2 : Int).toNat (s.extract pos s.size).size) (wrap64 (R + 1)) B) else (none)) else (none)))) (fun k => ?_) (Ev.bind fd ?_)
   · simp only [r5_Words.l0]
     rw [if_pos (by rw [extract_size]; omega)]
   ·
    rw [w64 (by omega) (by omega), w64 (by omega) (by omega), extract_extract]
    by_cases hl : Utf8.decode s pos = (65533, 1)
    · rw [if_pos (il.mpr hl)]
      have e : dec s pos = (-1, 1) := by unfold dec; rw [if_pos hl]
      rw [e]
      have e2 : (Utf8.decode s pos).2 = 1 := by rw [hl]
      rw [e2] at hf ⊢
      refine Ev.congr (fun k => ?_) (ih (pos + 1) R (B + 1) (by omega) (by omega) hR (by omega) (by omega))
      rw [if_pos (by decide), if_pos (by decide), if_pos (by rw [extract_size]; omega)]
      rfl
    · rw [if_neg (fun hh => hl (il.mp hh))]
      have e : dec s pos = (((Utf8.decode s pos).1 : Int), ((Utf8.decode s pos).2 : Int)) := by unfold dec; rw [if_neg hl]
      rw [e]
      refine Ev.congr (fun k => ?_) (ih (pos + (Utf8.decode s pos).2) (R + 1) B (by omega) (by omega) (by omega) hB (by omega))
      rw [if_neg (by simp only; omega), if_pos (by simp only; omega), if_pos (by rw [extract_size]; simp only; omega)]
      simp
  · simp only [label_Words.go]
    rw [if_neg hp]
    refine Ev.step (f := fun _ => some (R, B)) (fun k => ?_) (Ev.now _)
    simp only [r5_Words.l0]
    rw [if_neg (by rw [extract_size]; omega)]

/-- The runes of a text are the document's. -/
theorem words_eq (s : ByteArray) (hs : s.size ≤ 140737488351232) : ∃ r, label_Words.f s = some r ∧ Ev (fun k => r5_Words.f k s) r := by
 refine ⟨label_Words.go s s.size 0 0 0, by unfold label_Words.f; rw [if_pos hs], ?_⟩
 have h := words_go s hs s.size 0 0 0 (by omega) (by omega) (by omega) (by omega) (by simp)
 rw [extract_all] at h
 exact h
end Go.Proofs.YtnapcfpecpgdbaaDoor.Pl
