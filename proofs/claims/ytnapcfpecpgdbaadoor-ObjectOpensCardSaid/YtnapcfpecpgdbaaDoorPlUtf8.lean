/- The rune at a place: the model's decoding and the document's 'first' tell the same. -/
import Derived.Test.YtnapcfpecpgdbaaDoorMx15
import Derived.Test.YtnapcfpecpgdbaaDoorPlBase
namespace Go.Proofs.YtnapcfpecpgdbaaDoor.Pl
open Go.RowKit Go.Proofs.YtnapcfpecpgdbaaDoor.M Go.Proofs.YtnapcfpecpgdbaaDoorW.PrintWords Go.Proofs.YtnapcfpecpgdbaaDoorW.PrintLast

/-- The rune at a place, in numbers: n bytes are left, these four are the first. -/
def decB (n b0 b1 b2 b3 : Nat) : Nat × Nat :=
 if b0 < 128 then (b0, 1)
 else if (b0 / 32 == 6 && (decide (1 < n) && b1 / 64 == 2)) = true then (if b0 % 32 * 64 + b1 % 64 ≥ 128 then (b0 % 32 * 64 + b1 % 64, 2) else (Utf8.runeError, 1))
 else if (b0 / 16 == 14 && (decide (1 < n) && b1 / 64 == 2) && (decide (2 < n) && b2 / 64 == 2)) = true then (if (decide (b0 % 16 * 4096 + b1 % 64 * 64 + b2 % 64 ≥ 2048) && Utf8.valid ((b0 % 16 * 4096 + b1 % 64 * 64 + b2 % 64 : Nat) : Int)) = true then (b0 % 16 * 4096 + b1 % 64 * 64 + b2 % 64, 3) else (Utf8.runeError, 1))
 else if (b0 / 8 == 30 && (decide (1 < n) && b1 / 64 == 2) && (decide (2 < n) && b2 / 64 == 2) && (decide (3 < n) && b3 / 64 == 2)) = true then (if (decide (b0 % 8 * 262144 + b1 % 64 * 4096 + b2 % 64 * 64 + b3 % 64 ≥ 65536) && Utf8.valid ((b0 % 8 * 262144 + b1 % 64 * 4096 + b2 % 64 * 64 + b3 % 64 : Nat) : Int)) = true then (b0 % 8 * 262144 + b1 % 64 * 4096 + b2 % 64 * 64 + b3 % 64, 4) else (Utf8.runeError, 1))
 else (Utf8.runeError, 1)

theorem decode_decB (s : ByteArray) (pos : Nat) : Utf8.decode s pos = decB (s.size - pos) (s.get! (pos + 0)).toNat (s.get! (pos + 1)).toNat (s.get! (pos + 2)).toNat (s.get! (pos + 3)).toNat := by
 have e : ∀ k, decide (pos + k < s.size) = decide (k < s.size - pos) := fun k => by congr 1; simp; omega
 unfold decB
 rw [← e 1, ← e 2, ← e 3]
 rfl

theorem valid_iff (c : Nat) : Utf8.valid (c : Int) = true ↔ c < 55296 ∨ (57344 ≤ c ∧ c ≤ 1114111) := by
 unfold Utf8.valid
 rw [Bool.or_eq_true, Bool.and_eq_true, Bool.and_eq_true, decide_eq_true_eq, decide_eq_true_eq, decide_eq_true_eq, decide_eq_true_eq]
 omega

/-- What the document's 'first' tells of the same bytes. -/
def fstB (n b0 b1 b2 b3 : Nat) : Int × Int :=
 if b0 < 128 then ((b0 : Int), 1)
 else if 194 ≤ b0 ∧ b0 < 224 then (if 1 < n ∧ 128 ≤ b1 ∧ b1 < 192 then (((b0 : Int) - 192) * 64 + b1 - 128, 2) else (-1, 1))
 else if 224 ≤ b0 ∧ b0 < 240 then (if 2 < n ∧ (128 ≤ b1 ∧ b1 < 192) ∧ (128 ≤ b2 ∧ b2 < 192) ∧ 2048 ≤ (((b0 : Int) - 224) * 64 + b1 - 128) * 64 + b2 - 128 ∧ ((((b0 : Int) - 224) * 64 + b1 - 128) * 64 + b2 - 128 < 55296 ∨ 57344 ≤ (((b0 : Int) - 224) * 64 + b1 - 128) * 64 + b2 - 128) then ((((b0 : Int) - 224) * 64 + b1 - 128) * 64 + b2 - 128, 3) else (-1, 1))
 else if 240 ≤ b0 ∧ b0 < 245 then (if 3 < n ∧ (128 ≤ b1 ∧ b1 < 192) ∧ (128 ≤ b2 ∧ b2 < 192) ∧ (128 ≤ b3 ∧ b3 < 192) ∧ 65536 ≤ ((((b0 : Int) - 240) * 64 + b1 - 128) * 64 + b2 - 128) * 64 + b3 - 128 ∧ ((((b0 : Int) - 240) * 64 + b1 - 128) * 64 + b2 - 128) * 64 + b3 - 128 ≤ 1114111 then (((((b0 : Int) - 240) * 64 + b1 - 128) * 64 + b2 - 128) * 64 + b3 - 128, 4) else (-1, 1))
 else (-1, 1)

theorem fstB_decB (n b0 b1 b2 b3 : Nat) (h0 : b0 < 256) (h1 : b1 < 256) (h2 : b2 < 256) (h3 : b3 < 256) :
 fstB n b0 b1 b2 b3 = if decB n b0 b1 b2 b3 = (65533, 1) then (-1, 1) else (((decB n b0 b1 b2 b3).1 : Int), ((decB n b0 b1 b2 b3).2 : Int)) := by
 have bad : ∀ x : Nat × Nat, x = (Utf8.runeError, 1) → (-1, 1) = if x = (65533, 1) then ((-1, 1) : Int × Int) else ((x.1 : Int), (x.2 : Int)) := fun x hx => by rw [hx]; rfl
 by_cases c0 : b0 < 128
 · have e : decB n b0 b1 b2 b3 = (b0, 1) := by unfold decB; rw [if_pos c0]
   have e2 : fstB n b0 b1 b2 b3 = ((b0 : Int), 1) := by unfold fstB; rw [if_pos c0]
   rw [e, e2, if_neg (by simp; omega)]
   rfl
 by_cases c1 : b0 / 32 = 6 ∧ 1 < n ∧ b1 / 64 = 2
 · have e : decB n b0 b1 b2 b3 = if b0 % 32 * 64 + b1 % 64 ≥ 128 then (b0 % 32 * 64 + b1 % 64, 2) else (Utf8.runeError, 1) := by unfold decB; rw [if_neg c0, if_pos (by simp [c1])]
   by_cases c2 : b0 % 32 * 64 + b1 % 64 ≥ 128
   · rw [if_pos c2] at e
     rw [e, if_neg (by simp)]
     unfold fstB
     rw [if_neg c0, if_pos (by omega), if_pos (by omega)]
     simp only [Prod.mk.injEq]
     omega
   · rw [if_neg c2] at e
     rw [← bad _ e]
     unfold fstB
     rw [if_neg c0, if_neg (by omega), if_neg (by omega), if_neg (by omega)]
 by_cases c2 : b0 / 16 = 14 ∧ (1 < n ∧ b1 / 64 = 2) ∧ 2 < n ∧ b2 / 64 = 2
 ·
  have e : decB n b0 b1 b2 b3 = if (decide (b0 % 16 * 4096 + b1 % 64 * 64 + b2 % 64 ≥ 2048) && Utf8.valid ((b0 % 16 * 4096 + b1 % 64 * 64 + b2 % 64 : Nat) : Int)) = true then (b0 % 16 * 4096 + b1 % 64 * 64 + b2 % 64, 3) else (Utf8.runeError, 1) := by
   unfold decB; rw [if_neg c0, if_neg (by simpa using c1), if_pos (by simp [c2])]
  have v := valid_iff (b0 % 16 * 4096 + b1 % 64 * 64 + b2 % 64)
  by_cases c3 : b0 % 16 * 4096 + b1 % 64 * 64 + b2 % 64 ≥ 2048 ∧ Utf8.valid ((b0 % 16 * 4096 + b1 % 64 * 64 + b2 % 64 : Nat) : Int) = true
  · rw [if_pos (by rw [Bool.and_eq_true, decide_eq_true_eq]; exact c3)] at e
    rw [v] at c3
    rw [e, if_neg (by simp)]
    unfold fstB
    rw [if_neg c0, if_neg (by omega), if_pos (by omega), if_pos (by omega)]
    simp only [Prod.mk.injEq]
    omega
  · rw [if_neg (by rw [Bool.and_eq_true, decide_eq_true_eq]; exact c3)] at e
    rw [v] at c3
    rw [← bad _ e]
    unfold fstB
    rw [if_neg c0, if_neg (by omega), if_pos (by omega), if_neg (by omega)]
 by_cases c3 : b0 / 8 = 30 ∧ (1 < n ∧ b1 / 64 = 2) ∧ (2 < n ∧ b2 / 64 = 2) ∧ 3 < n ∧ b3 / 64 = 2
 ·
  have e : decB n b0 b1 b2 b3 = if (decide (b0 % 8 * 262144 + b1 % 64 * 4096 + b2 % 64 * 64 + b3 % 64 ≥ 65536) && Utf8.valid ((b0 % 8 * 262144 + b1 % 64 * 4096 + b2 % 64 * 64 + b3 % 64 : Nat) : Int)) = true then (b0 % 8 * 262144 + b1 % 64 * 4096 + b2 % 64 * 64 + b3 % 64, 4) else (Utf8.runeError, 1) := by
   unfold decB; rw [if_neg c0, if_neg (by simpa using c1), if_neg (by simp; omega), if_pos (by simp [c3])]
  have v := valid_iff (b0 % 8 * 262144 + b1 % 64 * 4096 + b2 % 64 * 64 + b3 % 64)
  by_cases c4 : b0 % 8 * 262144 + b1 % 64 * 4096 + b2 % 64 * 64 + b3 % 64 ≥ 65536 ∧ Utf8.valid ((b0 % 8 * 262144 + b1 % 64 * 4096 + b2 % 64 * 64 + b3 % 64 : Nat) : Int) = true
  · rw [if_pos (by rw [Bool.and_eq_true, decide_eq_true_eq]; exact c4)] at e
    rw [v] at c4
    rw [e, if_neg (by simp)]
    unfold fstB
    rw [if_neg c0, if_neg (by omega), if_neg (by omega), if_pos (by omega), if_pos (by omega)]
    simp only [Prod.mk.injEq]
    omega
  · rw [if_neg (by rw [Bool.and_eq_true, decide_eq_true_eq]; exact c4)] at e
    rw [v] at c4
    rw [← bad _ e]
    unfold fstB
    rw [if_neg c0, if_neg (by omega), if_neg (by omega)]
    by_cases c5 : b0 < 245
    · rw [if_pos (by omega), if_neg (by omega)]
    · rw [if_neg (by omega)]
 ·
  have e : decB n b0 b1 b2 b3 = (Utf8.runeError, 1) := by
   unfold decB; rw [if_neg c0, if_neg (by simpa using c1), if_neg (by simp; omega), if_neg (by simp; omega)]
  rw [← bad _ e]
  unfold fstB
  rw [if_neg c0]
  by_cases d1 : 194 ≤ b0 ∧ b0 < 224
  · rw [if_pos d1, if_neg (by omega)]
  rw [if_neg d1]
  by_cases d2 : 224 ≤ b0 ∧ b0 < 240
  · rw [if_pos d2, if_neg (by omega)]
  rw [if_neg d2]
  by_cases d3 : 240 ≤ b0 ∧ b0 < 245
  · rw [if_pos d3, if_neg (by omega)]
  rw [if_neg d3]

theorem decode_extract (s : ByteArray) (pos : Nat) : Utf8.decode s pos = Utf8.decode (s.extract pos s.size) 0 := by
 rw [decode_decB, decode_decB, extract_size, get_extract, get_extract, get_extract, get_extract]
 simp

/-- The document's 'first', in numbers. -/
theorem first_fstB (t : ByteArray) (h : 0 < t.size) (hs : t.size ≤ 140737488351232) :
 Ev (fun k => r5_first.f k t) (fstB t.size (t.get! 0).toNat (t.get! 1).toNat (t.get! 2).toNat (t.get! 3).toNat) := by
 have g0 := get_bt' t 0
 have g1 := get_bt' t 1
 have g2 := get_bt' t 2
 have g3 := get_bt' t 3
 have l0 := (t.get! 0).toNat_lt
 have l1 := (t.get! 1).toNat_lt
 have l2 := (t.get! 2).toNat_lt
 have l3 := (t.get! 3).toNat_lt
 generalize (t.get! 0).toNat = b0 at *
 generalize (t.get! 1).toNat = b1 at *
 generalize (t.get! 2).toNat = b2 at *
 generalize (t.get! 3).toNat = b3 at *
 refine ⟨12, fun k hk => ?_⟩
 obtain ⟨k, rfl⟩ : ∃ m, k = m + 12 := ⟨k - 12, by omega⟩
 show r5_first.f (k + 12) t = _
 have g0' : bt t 0 = (b0 : Int) := g0.symm
 have w0 : wrap64 (bt t 0) = (b0 : Int) := by rw [g0', w64 (by omega) (by omega)]
 have st : ∀ (m : Nat) (n least v : Int) (i b : Nat), bt t (i : Int) = (b : Int) → 1 ≤ i → (i : Int) ≤ n → n ≤ 3 → n < t.size → b < 256 → 0 ≤ v → v ≤ 100000 →
  r5_first.l0 (m + 1) t n least v (i : Int) = if 128 ≤ b ∧ b < 192 then r5_first.l0 m t n least (v * 64 + b - 128) ((i + 1 : Nat) : Int) else some (-1, 1) := by
  intro m n least v i b hb hi hin hn hns hb2 hv hv2
  simp only [r5_first.l0]
  rw [if_pos hin, if_pos (by omega), if_pos (by omega), hb, w64 (x := v * 64) (by omega) (by omega), w64 (x := (b : Int)) (by omega) (by omega), w64 (x := v * 64 + (b : Int)) (by omega) (by omega), w64 (x := v * 64 + (b : Int) - 128) (by omega) (by omega), w64 (x := (i : Int) + 1) (by omega) (by omega)]
  by_cases c1 : b < 128
  · rw [if_pos (by omega), if_neg (by omega)]
  · rw [if_neg (by omega)]
    by_cases c2 : b < 192
    · rw [if_neg (by omega), if_pos (by omega)]
      rfl
    · rw [if_pos (by omega), if_neg (by omega)]
 have en : ∀ (m : Nat) (n least v : Int) (i : Nat), ¬ ((i : Int) ≤ n) → 0 ≤ n → n ≤ 3 → 
  r5_first.l0 (m + 1) t n least v (i : Int) = if least ≤ v ∧ (v < 55296 ∨ 57344 ≤ v) ∧ v ≤ 1114111 then some (v, n + 1) else some (-1, 1) := by
  intro m n least v i hi hn hn3
  simp only [r5_first.l0]
  rw [if_neg hi, w64 (x := n + 1) (by omega) (by omega)]
  by_cases c1 : v < least
  · rw [if_pos c1, if_neg (by omega)]
  rw [if_neg c1]
  by_cases c2 : v ≥ 55296
  · rw [if_pos c2]
    by_cases c3 : v < 57344
    · rw [if_pos c3, if_neg (by omega)]
    rw [if_neg c3]
    by_cases c4 : v > 1114111
    · rw [if_pos c4, if_neg (by omega)]
    · rw [if_neg c4, if_pos (by omega)]
  · rw [if_neg c2, if_neg (by omega), if_pos (by omega)]
 have g1' : bt t ((1 : Nat) : Int) = (b1 : Int) := g1.symm
 have g2' : bt t ((2 : Nat) : Int) = (b2 : Int) := g2.symm
 have g3' : bt t ((3 : Nat) : Int) = (b3 : Int) := g3.symm
 unfold r5_first.f fstB
 rw [if_pos (by omega), w0]
 by_cases c0 : b0 < 128
 · rw [if_pos (by omega), if_pos c0]
 rw [if_neg (by omega), if_neg c0]
 by_cases c1 : 194 ≤ b0 ∧ b0 < 224
 ·
  rw [if_pos (by omega), if_pos c1]
  simp only [r5_first.j0]
  rw [if_pos (by simp; omega), w64 (by omega) (by omega)]
  simp only [r5_first.j2]
  by_cases c2 : (t.size : Int) ≤ 1
  · rw [if_pos c2, if_neg (by omega)]
  rw [if_neg c2]
  have e1 := st (k + 9) 1 128 ((b0 : Int) - 192) 1 b1 g1' (by omega) (by omega) (by omega) (by omega) l1 (by omega) (by omega)
  rw [show ((1 : Nat) : Int) = 1 from rfl] at e1
  rw [e1]
  by_cases c3 : 128 ≤ b1 ∧ b1 < 192
  · rw [if_pos c3, en _ _ _ _ _ (by omega) (by omega) (by omega), if_pos (by omega), if_pos (by omega)]
    rfl
  · rw [if_neg c3, if_neg (by omega)]
 rw [if_neg c1]
 have j0e : (if (b0 : Int) ≥ 194 then r5_first.j0 (k + 12) t (b0 : Int) (decide ((b0 : Int) < 224)) else r5_first.j0 (k + 12) t (b0 : Int) false) = r5_first.j0 (k + 12) t (b0 : Int) false := by
  by_cases d : (b0 : Int) ≥ 194
  · rw [if_pos d, decide_eq_false (by omega)]
  · rw [if_neg d]
 rw [j0e]
 simp only [r5_first.j0]
 rw [if_neg (by simp)]
 have j1e : (if (b0 : Int) ≥ 224 then r5_first.j1 (k + 11) t (b0 : Int) (decide ((b0 : Int) < 240)) else r5_first.j1 (k + 11) t (b0 : Int) false) = r5_first.j1 (k + 11) t (b0 : Int) (decide (224 ≤ b0 ∧ b0 < 240)) := by
  by_cases d : (b0 : Int) ≥ 224
  · rw [if_pos d]
    exact congrArg (r5_first.j1 (k + 11) t (b0 : Int)) (decide_eq_decide.mpr (by omega))
  · rw [if_neg d]
    exact congrArg (r5_first.j1 (k + 11) t (b0 : Int)) (decide_eq_false (by omega)).symm
 rw [j1e]
 simp only [r5_first.j1]
 by_cases c2 : 224 ≤ b0 ∧ b0 < 240
 ·
  rw [if_pos (by simpa using c2), if_pos c2, w64 (by omega) (by omega)]
  simp only [r5_first.j2]
  by_cases c3 : (t.size : Int) ≤ 2
  · rw [if_pos c3, if_neg (by omega)]
  rw [if_neg c3]
  have e1 := st (k + 8) 2 2048 ((b0 : Int) - 224) 1 b1 g1' (by omega) (by omega) (by omega) (by omega) l1 (by omega) (by omega)
  rw [show ((1 : Nat) : Int) = 1 from rfl] at e1
  rw [e1]
  by_cases c4 : 128 ≤ b1 ∧ b1 < 192
  · rw [if_pos c4, st (k + 7) 2 2048 (((b0 : Int) - 224) * 64 + b1 - 128) 2 b2 g2' (by omega) (by omega) (by omega) (by omega) l2 (by omega) (by omega)]
    by_cases c5 : 128 ≤ b2 ∧ b2 < 192
    · rw [if_pos c5, en _ _ _ _ _ (by omega) (by omega) (by omega)]
      by_cases c6 : 2048 ≤ (((b0 : Int) - 224) * 64 + b1 - 128) * 64 + b2 - 128 ∧ ((((b0 : Int) - 224) * 64 + b1 - 128) * 64 + b2 - 128 < 55296 ∨ 57344 ≤ (((b0 : Int) - 224) * 64 + b1 - 128) * 64 + b2 - 128)
      · rw [if_pos (by omega), if_pos (by omega)]
        rfl
      · rw [if_neg (by omega), if_neg (by omega)]
    · rw [if_neg c5, if_neg (by omega)]
  · rw [if_neg c4, if_neg (by omega)]
 rw [if_neg (by simpa using c2), if_neg c2]
 by_cases c3 : 240 ≤ b0 ∧ b0 < 245
 ·
  rw [if_pos (by omega), if_pos (by omega), if_pos c3, w64 (by omega) (by omega)]
  simp only [r5_first.j2]
  by_cases c4 : (t.size : Int) ≤ 3
  · rw [if_pos c4, if_neg (by omega)]
  rw [if_neg c4]
  have e1 := st (k + 8) 3 65536 ((b0 : Int) - 240) 1 b1 g1' (by omega) (by omega) (by omega) (by omega) l1 (by omega) (by omega)
  rw [show ((1 : Nat) : Int) = 1 from rfl] at e1
  rw [e1]
  by_cases c5 : 128 ≤ b1 ∧ b1 < 192
  · rw [if_pos c5, st (k + 7) 3 65536 (((b0 : Int) - 240) * 64 + b1 - 128) 2 b2 g2' (by omega) (by omega) (by omega) (by omega) l2 (by omega) (by omega)]
    by_cases c6 : 128 ≤ b2 ∧ b2 < 192
    · rw [if_pos c6, st (k + 6) 3 65536 ((((b0 : Int) - 240) * 64 + b1 - 128) * 64 + b2 - 128) 3 b3 g3' (by omega) (by omega) (by omega) (by omega) l3 (by omega) (by omega)]
      by_cases c7 : 128 ≤ b3 ∧ b3 < 192
      · rw [if_pos c7, en _ _ _ _ _ (by omega) (by omega) (by omega)]
        by_cases c8 : 65536 ≤ ((((b0 : Int) - 240) * 64 + b1 - 128) * 64 + b2 - 128) * 64 + b3 - 128 ∧ ((((b0 : Int) - 240) * 64 + b1 - 128) * 64 + b2 - 128) * 64 + b3 - 128 ≤ 1114111
        · rw [if_pos (by omega), if_pos (by omega)]
          rfl
        · rw [if_neg (by omega), if_neg (by omega)]
      · rw [if_neg c7, if_neg (by omega)]
    · rw [if_neg c6, if_neg (by omega)]
  · rw [if_neg c5, if_neg (by omega)]
 · rw [if_neg c3]
   by_cases d : (b0 : Int) ≥ 240
   · rw [if_pos d, if_neg (by omega)]
   · rw [if_neg d]

/-- What stands at a place, as the document's 'first' tells it. -/
def dec (s : ByteArray) (pos : Nat) : Int × Int := if Utf8.decode s pos = (65533, 1) then (-1, 1) else (((Utf8.decode s pos).1 : Int), ((Utf8.decode s pos).2 : Int))

theorem first_dec (s : ByteArray) (pos : Nat) (h : pos < s.size) (hs : s.size ≤ 140737488351232) :
 Ev (fun k => r5_first.f k (s.extract pos s.size)) (dec s pos) := by
 have e := first_fstB (s.extract pos s.size) (by rw [extract_size]; omega) (by rw [extract_size]; omega)
 rw [fstB_decB _ _ _ _ _ (UInt8.toNat_lt _) (UInt8.toNat_lt _) (UInt8.toNat_lt _) (UInt8.toNat_lt _)] at e
 have d := decode_decB (s.extract pos s.size) 0
 rw [← decode_extract] at d
 simp only [Nat.zero_add, Nat.sub_zero] at d
 rw [← d] at e
 exact e

theorem decode_pos (s : ByteArray) (pos : Nat) : 1 ≤ (Utf8.decode s pos).2 := by
 simp only [Utf8.decode]
 repeat' split
 all_goals simp

/-- A rune lies within the bytes. -/
theorem decode_fits (s : ByteArray) (pos : Nat) (h : pos < s.size) : pos + (Utf8.decode s pos).2 ≤ s.size := by
 rw [decode_decB]
 unfold decB
 repeat' split
 all_goals simp_all
 all_goals omega
end Go.Proofs.YtnapcfpecpgdbaaDoor.Pl
