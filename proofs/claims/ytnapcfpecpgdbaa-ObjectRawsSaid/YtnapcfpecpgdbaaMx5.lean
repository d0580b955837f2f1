/- The program's functions as plain functions, and that each call comes to what these tell; written by a program of this session, some contracts by hand. Conditions: none. -/
import Derived.Test.YtnapcfpecpgdbaaMx0
import Derived.Test.YtnapcfpecpgdbaaMx3
import Derived.Test.YtnapcfpecpgdbaaMx4
namespace Go.Proofs.Ytnapcfpecpgdbaa.M
open Go.RowKit Go.Proofs.YtnapcfpecpgdbaaW.PrintWords Go.Proofs.YtnapcfpecpgdbaaW.PrintLast Go.Proofs.YtnapcfpecpgdbaaW.PrintMore
attribute [local go_sem] max2_int min2_int max_two min_two max_three min_three max_four min_four   -- for this text's walks alone
set_option linter.unusedVariables false
set_option linter.unusedSimpArgs false

/-! ### pollardref01_Sum: function 30 (given by hand) -/
def turns : List Int := [7, 18, 17, 19, 6, 11, 25, 2, 13, 22]
def tn (x k : Int) : Int := (shr .u32 x k + shl .u32 x (32 - k)) % 4294967296
theorem turns_ok : ∀ k ∈ turns, IntKind.u64.wrap k = k ∧ IntKind.u64.wrap (wrap64 (32 - k)) = 32 - k ∧ 0 ≤ k ∧ 0 ≤ 32 - k := by decide +kernel
theorem tnC (x k : Int) (h : k ∈ turns) : pollardref01_turn.f x k = some (tn x k) := by
  obtain ⟨h1, h2, h3, h4⟩ := turns_ok k h
  unfold pollardref01_turn.f tn
  rw [h1, h2, if_pos h3, if_pos h4]
set_option maxHeartbeats 8000000 in
set_option maxRecDepth 100000 in
theorem turn_same (a0 : Int) (a1 : Int) (r : Int) (w : World) (h : pollardref01_turn.f a0 a1 = some r) :
    Calls Try.prog 48 #[.int .u32 a0, .int .i64 a1] w fun e w' => e = .returned (.int .u32 r) ∧ w' = w := by
  have H : (if 0 ≤ (IntKind.u64.wrap (a1)) then (if 0 ≤ (IntKind.u64.wrap (wrap64 (32 - a1))) then (some (((shr .u32 a0 (IntKind.u64.wrap (a1))) + (shl .u32 a0 (IntKind.u64.wrap (wrap64 (32 - a1))))) % 4294967296)) else (none)) else (none)) = some r := h
  clear h
  obtain ⟨ji3, hji3⟩ : ∃ j_ : Int, (IntKind.u64.wrap (a1)) = j_ := ⟨_, rfl⟩
  replace H : (if 0 ≤ (ji3) then (if 0 ≤ (IntKind.u64.wrap (wrap64 (32 - a1))) then (some (((shr .u32 a0 (ji3)) + (shl .u32 a0 (IntKind.u64.wrap (wrap64 (32 - a1))))) % 4294967296)) else (none)) else (none)) = some r := by first | (rw [hji3] at H; exact H) | (simp only [hji3] at H ⊢; exact H)
  by_cases c4 : 0 ≤ (ji3)
  · rw [if_pos c4] at H
    have c4b0 := eq_true c4
    have c4b1 : decide (0 ≤ (ji3)) = true := decide_eq_true c4
    clear c4
    obtain ⟨ji5, hji5⟩ : ∃ j_ : Int, (shr .u32 a0 (ji3)) = j_ := ⟨_, rfl⟩
    replace H : (if 0 ≤ (IntKind.u64.wrap (wrap64 (32 - a1))) then (some (((ji5) + (shl .u32 a0 (IntKind.u64.wrap (wrap64 (32 - a1))))) % 4294967296)) else (none)) = some r := by first | (rw [hji5] at H; exact H) | (simp only [hji5] at H ⊢; exact H)
    have hji5_ : (a0 / 2 ^ min (ji3).toNat 32) = ji5 := hji5
    have hji5z : (ji3) ≤ 32 → (a0 / 2 ^ (ji3).toNat) = ji5 := shr_small hji5
    obtain ⟨ji6, hji6⟩ : ∃ j_ : Int, (IntKind.u64.wrap (wrap64 (32 - a1))) = j_ := ⟨_, rfl⟩
    replace H : (if 0 ≤ (ji6) then (some (((ji5) + (shl .u32 a0 (ji6))) % 4294967296)) else (none)) = some r := by first | (rw [hji6] at H; exact H) | (simp only [hji6] at H ⊢; exact H)
    by_cases c7 : 0 ≤ (ji6)
    · rw [if_pos c7] at H
      have c7b0 := eq_true c7
      have c7b1 : decide (0 ≤ (ji6)) = true := decide_eq_true c7
      clear c7
      obtain ⟨ji8, hji8⟩ : ∃ j_ : Int, (shl .u32 a0 (ji6)) = j_ := ⟨_, rfl⟩
      replace H : (some (((ji5) + (ji8)) % 4294967296)) = some r := by first | (rw [hji8] at H; exact H) | (simp only [hji8] at H ⊢; exact H)
      have hji8_ : (IntKind.u32.wrap (a0 * 2 ^ min (ji6).toNat 32)) = ji8 := hji8
      have hji8z : (ji6) ≤ 32 → (IntKind.u32.wrap (a0 * 2 ^ (ji6).toNat)) = ji8 := shl_small hji8
      obtain rfl := Option.some.inj H
      go_enter Try.func48, Try.ntmps48
      go_wp2
      go_ret
      exact ⟨by first | rfl | (simp; done) | (simp only [← hji3, ← hji5, ← hji6, ← hji8] <;> (first | rfl | simp)) | (simp [*]; done), rfl⟩
    · rw [if_neg c7] at H
      exact absurd H (by simp)
  · rw [if_neg c4] at H
    exact absurd H (by simp)
theorem tn_same (x k : Int) (h : k ∈ turns) (w : World) : Calls Try.prog 48 #[.int .u32 x, .int .i64 k] w fun e w' => e = .returned (.int .u32 (tn x k)) ∧ w' = w := turn_same x k _ w (tnC x k h)
theorem tn_calls (x k : Int) (h : k ∈ turns) (w : World) : Calls Try.prog 48 #[.int .u32 x, .int .i64 k] w fun e w' => e = .returned (.int .u32 (tn x k)) ∧ ∃ m, w' = w.drewN m :=
  (pollardref01_turn.calls x k _ w (tnC x k h)).mono fun e w_ ⟨h1, ⟨m, hm⟩⟩ => ⟨h1, m, hm⟩
theorem tn_quiet (x k : Int) (h : k ∈ turns) (w : World) (a b : Nat) : Calls Try.prog 48 #[.int .u32 x, .int .i64 k] (w.drewN (a + b)) fun e w'' => e = .returned (.int .u32 (tn x k)) ∧ ∃ n, w'' = w.drewN (a + n) :=
  (tn_calls x k h _).mono fun e w_ ⟨h1, m, hm⟩ => ⟨h1, b + m, by rw [hm, World.drewN_drewN, Nat.add_assoc]⟩
set_option maxHeartbeats 2000000 in
set_option maxRecDepth 100000 in
theorem rs_salts.calls (w : World) : Calls Try.prog 47 #[] w fun e w' => e = .returned (.agg (u32s sum_saltsV)) ∧ Below w.heap.size w w' := by
  go_enter Try.func47, Try.ntmps47
  refine wp_seq_k (fun K0 hK0 => ?_)
  apply wp_region_lit
  refine Go.Great.wpList_allocTo rfl (some 0) rfl (.pointer (some ⟨w.heap.size, 0, none⟩)) (.cells (u32s (List.replicate 64 0)) 72) (by kernel_rfl) ?_
  refine wpList_nil ?_
  refine hK0 _ _ ?_
  refine wp_seq_k (fun K1 hK1 => ?_)
  apply wp_region_lit
  refine wpList_build rfl 72 _ rfl (by kernel_rfl) ?_
  refine wpList_store_row rfl 72 (.tmp 0) (.tmp 1) rfl w.heap.size (u32s sum_saltsV) rfl (by kernel_rfl) 72 _ (heap_alloc_new w _) (by kernel_rfl) rfl (by kernel_rfl) ?_
  refine wpList_nil ?_
  refine hK1 _ _ ?_
  refine wp_ret ?_
  have hg := setRow_heap (w.alloc (.cells (u32s (List.replicate 64 0)) 72)) w.heap.size _ (u32s sum_saltsV) 72 (0, 0) (heap_alloc_new w _)
  refine bodyPost_ret (v := .agg (u32s sum_saltsV)) (results_cell_row rfl _ _ w.heap.size 72 (u32s sum_saltsV) (0, 0) _ rfl hg Try.underlying72 rfl (by kernel_rfl)) rfl ⟨rfl, ?_⟩
  exact Below.trans (below_alloc (Below.refl _ _) _) ⟨rfl, rfl, rfl, by rw [setRow_size]; exact Nat.le_refl _, fun k hk => setRow_other _ _ _ _ (by omega)⟩
/-- The text, its closing byte, so many zeros. -/
def rs_pad (t : ByteArray) : Nat → ByteArray
  | 0 => t ++ ⟨#[128]⟩
  | k + 1 => rs_pad t k ++ ⟨#[0]⟩
theorem rs_pad_size (t : ByteArray) : ∀ k, (rs_pad t k).size = t.size + 1 + k
  | 0 => by rw [rs_pad, ByteArray.size_append]; rfl
  | k + 1 => by rw [rs_pad, ByteArray.size_append, rs_pad_size t k]; rfl
/-- How many zeros: none where 56 bytes are there, up to whole spans. -/
def rs_pads (n : Nat) : Nat := (119 - n % 64) % 64
def rs_len (t : ByteArray) : Int := IntKind.u64.wrap (IntKind.u64.wrap (t.size : Int) * 8)
/-- With so many bytes of the number of bits. -/
def rs_bits (s : ByteArray) (n : Int) : Nat → ByteArray
  | 0 => s
  | i + 1 => rs_bits s n i ++ strOfNums [n / 2 ^ (56 - 8 * i) % 256]
theorem rs_bits_size (s : ByteArray) (n : Int) : ∀ i, (rs_bits s n i).size = s.size + i
  | 0 => rfl
  | i + 1 => by rw [rs_bits, ByteArray.size_append, rs_bits_size s n i, strOfNums_size]; rfl
/-- The words of a span, so many bytes taken in. -/
def rs_take (s : ByteArray) (a : Nat) : Nat → List Int
  | 0 => List.replicate 64 0
  | i + 1 => (rs_take s a i).set (i / 4) ((rd (rs_take s a i) ((i : Int) / 4) * 256 + bt s ((a + i : Nat) : Int)) % 4294967296)
theorem rs_take_length (s : ByteArray) (a : Nat) : ∀ i, (rs_take s a i).length = 64
  | 0 => rfl
  | i + 1 => by rw [rs_take, List.length_set, rs_take_length s a i]
def rs_small (a : Int) : Int := Go.bits .xor .u32 (Go.bits .xor .u32 (tn a 7) (tn a 18)) (a / 8)
def rs_great (a : Int) : Int := Go.bits .xor .u32 (Go.bits .xor .u32 (tn a 17) (tn a 19)) (a / 1024)
/-- The next word of all 64. -/
def rs_new (W : List Int) (i : Nat) : Int := (rd W ((i - 16 : Nat) : Int) + rd W ((i - 7 : Nat) : Int) + rs_small (rd W ((i - 15 : Nat) : Int)) + rs_great (rd W ((i - 2 : Nat) : Int))) % 4294967296
def rs_ext (W : List Int) : Nat → List Int
  | 0 => W
  | j + 1 => (rs_ext W j).set (16 + j) (rs_new (rs_ext W j) (16 + j))
theorem rs_ext_length (W : List Int) : ∀ j, (rs_ext W j).length = W.length
  | 0 => rfl
  | j + 1 => by rw [rs_ext, List.length_set, rs_ext_length W j]
def rs_most (x0 x1 x2 : Int) : Int := Go.bits .or .u32 (Go.bits .or .u32 (Go.bits .and .u32 x0 x1) (Go.bits .and .u32 x0 x2)) (Go.bits .and .u32 x1 x2)
def rs_one (x4 x5 x6 x7 k w : Int) : Int := ((x7 + Go.bits .xor .u32 (Go.bits .xor .u32 (tn x4 6) (tn x4 11)) (tn x4 25) + (Go.bits .and .u32 x4 x5 + Go.bits .and .u32 ((4294967295 - x4) % 4294967296) x6) + k) % 4294967296 + w) % 4294967296
def rs_two (x0 x1 x2 : Int) : Int := (Go.bits .xor .u32 (Go.bits .xor .u32 (tn x0 2) (tn x0 13)) (tn x0 22) + rs_most x0 x1 x2) % 4294967296
def rs_step (x : List Int) (k w : Int) : List Int := match x with
  | [x0, x1, x2, x3, x4, x5, x6, x7] => [(rs_one x4 x5 x6 x7 k w + rs_two x0 x1 x2) % 4294967296, x0, x1, x2, (x3 + rs_one x4 x5 x6 x7 k w) % 4294967296, x4, x5, x6]
  | _ => x
def rs_rounds (v E : List Int) : Nat → List Int
  | 0 => v
  | i + 1 => rs_step (rs_rounds v E i) (rd sum_saltsV (i : Int)) (rd E (i : Int))
theorem rs_rounds_length (v E : List Int) (hv : v.length = 8) : ∀ i, (rs_rounds v E i).length = 8
  | 0 => hv
  | i + 1 => by
    obtain ⟨a, b, c, d, e, f, g, h, hx⟩ := eight (rs_rounds_length v E hv i)
    rw [rs_rounds, hx]
    rfl
def rs_block (v : List Int) (s : ByteArray) (a : Nat) : List Int := sum_add v (rs_rounds v (rs_ext (rs_take s a 64) 48) 64) 8
def rs_blocks (s : ByteArray) : Nat → List Int
  | 0 => sum_beginV
  | k + 1 => rs_block (rs_blocks s k) s (64 * k)
theorem rs_blocks_length (s : ByteArray) : ∀ k, (rs_blocks s k).length = 8
  | 0 => rfl
  | k + 1 => sum_add_length _ _ 8 (rs_blocks_length s k) 8
/-- So many bytes of the words. -/
def rs_out (h : List Int) : Nat → ByteArray
  | 0 => ⟨#[]⟩
  | i + 1 => rs_out h i ++ strOfNums [rd h ((i : Int) / 4) / 2 ^ (24 - i % 4 * 8) % 256]
theorem rs_out_size (h : List Int) : ∀ i, (rs_out h i).size = i
  | 0 => rfl
  | i + 1 => by rw [rs_out, ByteArray.size_append, rs_out_size h i, strOfNums_size]; rfl
def rs_full (t : ByteArray) : ByteArray := rs_bits (rs_pad t (rs_pads t.size)) (rs_len t) 8
def rs_hash (t : ByteArray) : ByteArray := rs_out (rs_blocks (rs_full t) ((rs_full t).size / 64)) 32
theorem rs_quo (i : Nat) (h : i < 1000) : IntKind.i64.wrap ((i : Int) / 4) = (i : Int) / 4 := by
  rw [i64_w]
  unfold wrap64
  omega
theorem rs_plus (a i : Nat) (h : a + i < 100000000000000) : IntKind.i64.wrap ((a : Int) + (i : Int)) = (a : Int) + (i : Int) := by
  rw [i64_w]
  unfold wrap64
  omega
theorem rs_bt (s : ByteArray) (i : Nat) (h : i < s.size) : ((s[i]'h).toNat : Int) = bt s (i : Int) := bt_at s (i : Int) h
structure RsMinus (I c : Nat) (C : Int) : Prop where
  eq : IntKind.i64.wrap ((I : Int) - C) = ((I - c : Nat) : Int)
  hi : ((I - c : Nat) : Int) < 64
theorem rs_minus (I c : Nat) (C : Int) (hC : C = (c : Int)) (h0 : c ≤ 16) (h : 16 ≤ I ∧ I < 64) : RsMinus I c C := by
  refine ⟨?_, by omega⟩
  rw [i64_w]
  unfold wrap64
  omega
theorem tn_quiet0 (x k : Int) (h : k ∈ turns) (w : World) (b : Nat) : Calls Try.prog 48 #[.int .u32 x, .int .i64 k] (w.drewN b) fun e w'' => e = .returned (.int .u32 (tn x k)) ∧ ∃ n, w'' = w.drewN n :=
  (tn_calls x k h _).mono fun e w_ ⟨h1, m, hm⟩ => ⟨h1, b + m, by rw [hm, World.drewN_drewN]⟩
theorem Arr.far8 {w : World} {b g : Nat} {t : TypeId} {xs : List Int} (h : Arr w b t xs) (hne : b ≠ g) (r0 r1 r2 r3 r4 r5 r6 r7 : Value) : Arr ((((((((w.setCell ⟨g, 0, none⟩ r0).setCell ⟨g, 1, none⟩ r1).setCell ⟨g, 2, none⟩ r2).setCell ⟨g, 3, none⟩ r3).setCell ⟨g, 4, none⟩ r4).setCell ⟨g, 5, none⟩ r5).setCell ⟨g, 6, none⟩ r6).setCell ⟨g, 7, none⟩ r7) b t xs := ((((((((h.far _ _ hne).far _ _ hne).far _ _ hne).far _ _ hne).far _ _ hne).far _ _ hne).far _ _ hne).far _ _ hne)
theorem Arr.set8 {w : World} {g : Nat} {t : TypeId} {x0 x1 x2 x3 x4 x5 x6 x7 : Int} (h : Arr w g t [x0, x1, x2, x3, x4, x5, x6, x7]) (r0 r1 r2 r3 r4 r5 r6 r7 : Int) : Arr ((((((((w.setCell ⟨g, 0, none⟩ (.int .u32 r0)).setCell ⟨g, 1, none⟩ (.int .u32 r1)).setCell ⟨g, 2, none⟩ (.int .u32 r2)).setCell ⟨g, 3, none⟩ (.int .u32 r3)).setCell ⟨g, 4, none⟩ (.int .u32 r4)).setCell ⟨g, 5, none⟩ (.int .u32 r5)).setCell ⟨g, 6, none⟩ (.int .u32 r6)).setCell ⟨g, 7, none⟩ (.int .u32 r7)) g t [r0, r1, r2, r3, r4, r5, r6, r7] := ((((((((h.set 0 (by show 0 < 8; decide) r0).set 1 (by show 1 < 8; decide) r1).set 2 (by show 2 < 8; decide) r2).set 3 (by show 3 < 8; decide) r3).set 4 (by show 4 < 8; decide) r4).set 5 (by show 5 < 8; decide) r5).set 6 (by show 6 < 8; decide) r6).set 7 (by show 7 < 8; decide) r7)
theorem below8 {B g : Nat} {w0 w : World} (h : Below B w0 w) (hg : B ≤ g) (r0 r1 r2 r3 r4 r5 r6 r7 : Value) : Below B w0 ((((((((w.setCell ⟨g, 0, none⟩ r0).setCell ⟨g, 1, none⟩ r1).setCell ⟨g, 2, none⟩ r2).setCell ⟨g, 3, none⟩ r3).setCell ⟨g, 4, none⟩ r4).setCell ⟨g, 5, none⟩ r5).setCell ⟨g, 6, none⟩ r6).setCell ⟨g, 7, none⟩ r7) := (below_setB (below_setB (below_setB (below_setB (below_setB (below_setB (below_setB (below_setB h hg _) hg _) hg _) hg _) hg _) hg _) hg _) hg _)
theorem rs_plus64 (a : Nat) (h : a < 100000000000000) : IntKind.i64.wrap ((a : Int) + 64) = (a : Int) + 64 := by
  rw [i64_w]
  unfold wrap64
  omega
set_option maxHeartbeats 8000000 in
set_option maxRecDepth 100000 in
theorem rs_Sum.calls (t : ByteArray) (w : World) (ht : t.size ≤ 70368744177664) :
    Calls Try.prog 30 #[.string t] w fun e w' => e = .returned (.string (rs_hash t)) ∧ Below w.heap.size w w' := by
  have HT := Aside0.mk ht
  have c1 : (9223372036854775807 < t.size + 1) = False := eq_false (by omega)
  clear ht
  go_enter Try.func30, Try.ntmps30
  go_wp2_with fail
  clear c1
  go_loopw [0] (fun u0 wr => ∃ (k : Nat), u0 = .string (rs_pad t k) ∧ Aside0 (k ≤ rs_pads t.size) ∧ Aside0 (Below w.heap.size w wr)) (fun u0 _ => match u0 with | .string s => t.size + 200 - s.size | _ => 0)
  case atStart => exact ⟨0, rfl, ⟨Nat.zero_le _⟩, ⟨Below.refl _ _⟩⟩
  case round =>
    obtain ⟨k, rfl, HK, HB⟩ := hrel
    have hz := rs_pad_size t k
    generalize hs : rs_pad t k = s at *
    have HS := Aside0.mk hs
    have hkp := HK.out
    have htt := HT.out
    clear hs
    by_cases h56 : s.size % 64 = 56
    · have c2 : (((s.size : Int) % 64) != 56) = false := by rw [bne_eq_false_iff_eq]; omega
      have tm : Int.tmod (s.size : Int) 64 = (s.size : Int) % 64 := rfl
      have hk2 : k = rs_pads t.size := by
        unfold rs_pads at hkp ⊢
        omega
      have hk64 : k ≤ 63 := by unfold rs_pads at hkp; omega
      have hsz : s.size ≤ 70368744178000 := by omega
      have SZ := Aside0.mk hsz
      have HD := Aside0.mk h56
      have HE : Aside0 (rs_pad t (rs_pads t.size) = s) := ⟨by rw [← hk2]; exact HS.out⟩
      clear hz HK hkp HS htt hk2 hk64 hsz h56
      go_wp2_with fail
      clear c2 tm
      go_loopw [0, 4] (fun u0 u4 wr => ∃ (i : Nat), u0 = .string (rs_bits s (rs_len t) i) ∧ u4 = .int .i64 i ∧ i ≤ 8 ∧ Aside0 (Below w.heap.size w wr)) (fun _ u4 _ => 8 - (intOf u4).toNat)
      case atStart => exact ⟨0, rfl, rfl, by omega, HB⟩
      case round =>
        clear HB
        obtain ⟨i, rfl, rfl, hi, HB⟩ := hrel
        have hz := rs_bits_size s (rs_len t) i
        have hz2 := SZ.out
        generalize hs2 : rs_bits s (rs_len t) i = s2 at *
        have HS2 := Aside0.mk hs2
        clear hs2
        by_cases hlt : i < 8
        · as_aux_lemma =>
            have hi8 : (i : Int) < 8 := by omega
            have hj4 : (0 : Int) ≤ 56 - 8 * (i : Int) := by omega
            have hj5 : (56 - 8 * (i : Int)).toNat = 56 - 8 * i := by omega
            have hcs : (convert 31 9 (.slice (some ⟨wr.heap.size, 0, none⟩) 1 1)).run Try.prog (wr.alloc (.cells #[.int .u8 (IntKind.u64.wrap (IntKind.u64.wrap (t.size : Int) * 8) / 2 ^ (56 - 8 * i) % 256)] 5)) = .ok (.string (strOfNums [IntKind.u64.wrap (IntKind.u64.wrap (t.size : Int) * 8) / 2 ^ (56 - 8 * i) % 256])) (wr.alloc (.cells #[.int .u8 (IntKind.u64.wrap (IntKind.u64.wrap (t.size : Int) * 8) / 2 ^ (56 - 8 * i) % 256)] 5)) :=
              own_string (P := Try.prog) (src := 31) (dst := 9) Try.underlying31 Try.underlying5 Try.underlying9 (own_lit wr w.heap.size 5 .u8 [IntKind.u64.wrap (IntKind.u64.wrap (t.size : Int) * 8) / 2 ^ (56 - 8 * i) % 256] HB.out.size (by simp))
            have e1 : (strOfNums [IntKind.u64.wrap (IntKind.u64.wrap (t.size : Int) * 8) / 2 ^ (56 - 8 * i) % 256]).size = 1 := by rw [strOfNums_size]; rfl
            have c1 : (9223372036854775807 < s2.size + (strOfNums [IntKind.u64.wrap (IntKind.u64.wrap (t.size : Int) * 8) / 2 ^ (56 - 8 * i) % 256]).size) = False := eq_false (by rw [e1]; omega)
            have c2 : (9223372036854775807 < s2.size + 1) = False := eq_false (by omega)
            clear hz hz2
            go_wp2_with fail
            go_roundw
            case rel =>
              refine ⟨i + 1, ?_, rfl, by omega, ⟨below_alloc HB.out _⟩⟩
              rw [rs_bits, HS2.out]
              rfl
            case measure =>
              simp [intOf]
              omega
        · obtain rfl : i = 8 := by omega
          clear hlt hi
          have HF : Aside0 (rs_full t = s2) := ⟨by rw [rs_full, HE.out]; exact HS2.out⟩
          have HM : Aside0 (s2.size % 64 = 0) := ⟨by have := HD.out; omega⟩
          have HZ : Aside0 (s2.size ≤ 70368744178008) := ⟨by omega⟩
          clear hz hz2 HE HS2 SZ HD
          go_upto_region 10 with (fail)
          apply wp_region_lit
          refine goesL_ (some 50) rfl rfl Try.func47 (by kernel_rfl) rfl #[] rfl (by simp) ?_
          refine (rs_salts.calls _).mono ?_
          rintro e w1 ⟨rfl, hb1⟩
          refine ⟨_, rfl, ?_⟩
          refine Go.Great.wpList_allocTo rfl (some 6) rfl (.pointer (some ⟨w1.heap.size, 0, none⟩)) (.cells (u32s (List.replicate 64 0)) 72) (by kernel_rfl) ?_
          refine wpList_store_row rfl 72 (.tmp 6) (.tmp 50) rfl w1.heap.size (u32s sum_saltsV) rfl rfl 72 _ (heap_alloc_new w1 _) (by kernel_rfl) rfl (by kernel_rfl) ?_
          refine wpList_nil ?_
          have hw1 : wr.heap.size + 1 ≤ w1.heap.size := by
            have := hb1.size
            rw [sz_alloc] at this
            exact this
          have hgw := HB.out.size
          have G5 : Aside0 (Arr ((w1.alloc (.cells (u32s (List.replicate 64 0)) 72)).setRow w1.heap.size (u32s sum_saltsV)) wr.heap.size 71 sum_beginV) :=
            ⟨(((Arr.newAt wr 71 sum_beginV rfl _ rfl).below hb1).alloc _).rowFar (by omega)⟩
          have G6 : Aside0 (Arr ((w1.alloc (.cells (u32s (List.replicate 64 0)) 72)).setRow w1.heap.size (u32s sum_saltsV)) w1.heap.size 72 sum_saltsV) :=
            ⟨(Arr.newAt w1 72 (List.replicate 64 0) rfl _ rfl).row⟩
          have GB : Aside0 (Below w.heap.size w ((w1.alloc (.cells (u32s (List.replicate 64 0)) 72)).setRow w1.heap.size (u32s sum_saltsV))) :=
            ⟨below_row (below_alloc ((below_alloc HB.out _).trans (hb1.mono (below_size (below_alloc HB.out _)))) _) (by omega)⟩
          generalize (w1.alloc (.cells (u32s (List.replicate 64 0)) 72)).setRow w1.heap.size (u32s sum_saltsV) = w2 at *
          generalize wr.heap.size = g5 at *
          generalize w1.heap.size = g6 at *
          have h56 : g5 < g6 := by omega
          clear hb1 HB hw1
          simp only [Act.put, List.setIfInBounds_toArray, List.set_cons_zero, List.set_cons_succ]
          go_wp2_with fail
          simp only [Int.cast_ofNat_Int]
          go_loopw [7] (fun u7 wr => ∃ (k : Nat), u7 = .int .i64 ((64 * k : Nat) : Int) ∧ 64 * k ≤ s2.size ∧ Aside0 (Arr wr g5 71 (rs_blocks s2 k)) ∧ Aside0 (Arr wr g6 72 sum_saltsV) ∧ Aside0 (Below w.heap.size w wr)) (fun u7 _ => s2.size - (intOf u7).toNat)
          case atStart => exact ⟨0, rfl, by omega, G5, G6, GB⟩
          case round =>
            clear G5 G6 GB
            obtain ⟨k, rfl, hk, H5, H6, HB⟩ := hrel
            have hm64 : 64 * k % 64 = 0 := by omega
            have HA : Aside0 (64 * k = 64 * k) := ⟨rfl⟩
            generalize hA : 64 * k = A at *
            replace hA := Aside0.mk hA
            clear HA
            by_cases hlt : A < s2.size
            · have hlt' : (A : Int) < (s2.size : Int) := by omega
              have hk64 : A + 64 ≤ s2.size := by have := HM.out; omega
              go_upto_region 14 with (fail)
              apply wp_region_lit
              refine wpList_build rfl 72 _ rfl (by kernel_rfl) ?_
              refine Go.Great.wpList_allocTo rfl (some 8) rfl (.pointer (some ⟨wr.heap.size, 0, none⟩)) (.cells (u32s (List.replicate 64 0)) 72) (by kernel_rfl) ?_
              refine wpList_store_row rfl 72 (.tmp 8) (.tmp 57) rfl wr.heap.size (u32s (List.replicate 64 0)) rfl (by kernel_rfl) 72 _ (heap_alloc_new wr _) (by kernel_rfl) rfl (by kernel_rfl) ?_
              refine wpList_nil ?_
              have l5 := H5.out.lt
              have l6 := H6.out.lt
              have hgw2 := HB.out.size
              have X5 : Aside0 (Arr ((wr.alloc (.cells (u32s (List.replicate 64 0)) 72)).setRow wr.heap.size (u32s (List.replicate 64 0))) g5 71 (rs_blocks s2 k)) := ⟨(H5.out.alloc _).rowFar (by omega)⟩
              have X6 : Aside0 (Arr ((wr.alloc (.cells (u32s (List.replicate 64 0)) 72)).setRow wr.heap.size (u32s (List.replicate 64 0))) g6 72 sum_saltsV) := ⟨(H6.out.alloc _).rowFar (by omega)⟩
              have X8 : Aside0 (Arr ((wr.alloc (.cells (u32s (List.replicate 64 0)) 72)).setRow wr.heap.size (u32s (List.replicate 64 0))) wr.heap.size 72 (rs_take s2 A 0)) := ⟨(Arr.newAt wr 72 (List.replicate 64 0) rfl _ rfl).row⟩
              have XB : Aside0 (Below w.heap.size w ((wr.alloc (.cells (u32s (List.replicate 64 0)) 72)).setRow wr.heap.size (u32s (List.replicate 64 0)))) := ⟨below_row (below_alloc HB.out _) (by omega)⟩
              generalize (wr.alloc (.cells (u32s (List.replicate 64 0)) 72)).setRow wr.heap.size (u32s (List.replicate 64 0)) = w3 at *
              generalize wr.heap.size = g8 at *
              clear H5 H6 HB
              simp only [Act.put, List.setIfInBounds_toArray, List.set_cons_zero, List.set_cons_succ]
              generalize Value.agg (Option.getD _ #[]) = u57v
              go_wp2_with fail
              have H64 := rs_take_length s2 A
              go_loopw [9] (fun u9 wr => ∃ (i : Nat), u9 = .int .i64 i ∧ i ≤ 64 ∧ Aside0 (Arr wr g5 71 (rs_blocks s2 k)) ∧ Aside0 (Arr wr g6 72 sum_saltsV) ∧ Aside0 (Arr wr g8 72 (rs_take s2 A i)) ∧ Aside0 (Below w.heap.size w wr)) (fun u9 _ => 64 - (intOf u9).toNat)
              case atStart => exact ⟨0, rfl, by omega, X5, X6, X8, XB⟩
              case round =>
                clear X5 X6 X8 XB
                obtain ⟨i, rfl, hi, H5, H6, H8, HB⟩ := hrel
                by_cases hlt : i < 64
                · as_aux_lemma =>
                    have hlt' : ((i : Nat) : Int) < 64 := by omega
                    have c24 : decide ((i : Int) < 64) = true := decide_eq_true hlt'
                    have hx0 : (0 : Int) ≤ (A : Int) + (i : Int) := by omega
                    have hx1 : (A : Int) + (i : Int) < (s2.size : Int) := by omega
                    have hx2 : ((A : Int) + (i : Int)).toNat = A + i := by omega
                    have hw := H8.out.cellN (i / 4) (by rw [rs_take_length]; omega)
                    have hf := H8.out.frozen (i / 4)
                    have q0 : (0 : Int) ≤ (i : Int) / 4 := by omega
                    have q1 : (i : Int) / 4 < 64 := by omega
                    have q2 : ((i : Int) / 4).toNat = i / 4 := by omega
                    have hz3 := HZ.out
                    have hq := rs_quo i (by omega)
                    have hp := rs_plus A i (by omega)
                    clear hz3
                    go_wp2_with fail
                    refine wp_region_still_tail 15 (by kernel_rfl) (by kernel_rfl) ?_
                    simp only [List.take_succ_cons, List.take_zero, List.drop_succ_cons, List.drop_zero]
                    change wpStill _ _ wr.drew (fun a' => wpList _ _ _ _ a' wr.drew) _ _
                    replace hw : wr.drew.cell? _ = _ := hw
                    replace hf : wr.drew.frozen? _ = _ := hf
                    have Y5 := Aside0.mk (show Arr wr.drew _ _ _ from H5.out)
                    have Y6 := Aside0.mk (show Arr wr.drew _ _ _ from H6.out)
                    have Y8 := Aside0.mk (show Arr wr.drew _ _ _ from H8.out)
                    have YB := Aside0.mk (show Below w.heap.size w wr.drew from pw_below_drewN HB.out 1)
                    clear H5 H6 H8 HB
                    generalize wr.drew = wd at *
                    repeat still_step
                    refine wpStill_nil ?_
                    clear hq hp
                    go_wp2_with fail
                    go_roundw
                    case rel =>
                      have hlen := H64 i
                      have e8 := rs_bt s2 (A + i) (by omega)
                      refine ⟨i + 1, rfl, by omega, ⟨Y5.out.far _ _ (by show _ ≠ g8; omega)⟩, ⟨Y6.out.far _ _ (by show _ ≠ g8; omega)⟩, ⟨?_⟩, ⟨below_set YB.out (by omega)⟩⟩
                      rw [rs_take, ← e8]
                      exact Y8.out.set (i / 4) (by rw [hlen]; omega) _
                    case measure =>
                      simp [intOf]
                      omega
                · obtain rfl : i = 64 := by omega
                  have L64 := Aside0.mk (rs_take_length s2 A 64)
                  have HE0 := Aside0.mk (show rs_take s2 A 64 = rs_take s2 A 64 from rfl)
                  generalize hE0 : rs_take s2 A 64 = E0 at *
                  clear HE0 hi hlt H64
                  replace hE0 := Aside0.mk hE0
                  go_wp2_with fail
                  simp only [Int.cast_ofNat_Int]
                  go_loopw [10] (fun u10 wr => ∃ (i : Nat), u10 = .int .i64 ((16 + i : Nat) : Int) ∧ i ≤ 48 ∧ Aside0 (Arr wr g5 71 (rs_blocks s2 k)) ∧ Aside0 (Arr wr g6 72 sum_saltsV) ∧ Aside0 (Arr wr g8 72 (rs_ext E0 i)) ∧ Aside0 (Below w.heap.size w wr)) (fun u10 _ => 64 - (intOf u10).toNat)
                  case atStart => exact ⟨0, rfl, by omega, H5, H6, H8, HB⟩
                  case round =>
                    clear H5 H6 H8 HB
                    obtain ⟨i, rfl, hi, H5, H6, H8, HB⟩ := hrel
                    have hl := Aside0.mk ((rs_ext_length E0 i).trans L64.out)
                    have HN := Aside0.mk (show rs_ext E0 (i + 1) = (rs_ext E0 i).set (16 + i) (rs_new (rs_ext E0 i) (16 + i)) from rfl)
                    generalize hW : rs_ext E0 i = W at *
                    generalize hI : 16 + i = I at *
                    by_cases hlt : I < 64
                    · as_aux_lemma =>
                        have hlt' : (I : Int) < 64 := by omega
                        have c24 : decide ((I : Int) < 64) = true := decide_eq_true hlt'
                        have s15 := rs_minus I 15 15 rfl (by omega) (by omega)
                        have s2_ := rs_minus I 2 2 rfl (by omega) (by omega)
                        have s16 := rs_minus I 16 16 rfl (by omega) (by omega)
                        have s7 := rs_minus I 7 7 rfl (by omega) (by omega)
                        have l15 : I - 15 < 64 := by omega
                        have l2 : I - 2 < 64 := by omega
                        have l16 : I - 16 < 64 := by omega
                        have l7 : I - 7 < 64 := by omega
                        have z15 := H8.out.cellN (I - 15) (by rw [hl.out]; exact l15)
                        have z2 := H8.out.cellN (I - 2) (by rw [hl.out]; exact l2)
                        have z16 := H8.out.cellN (I - 16) (by rw [hl.out]; exact l16)
                        have z7 := H8.out.cellN (I - 7) (by rw [hl.out]; exact l7)
                        have zI := H8.out.cellN I (by rw [hl.out]; omega)
                        have hf := H8.out.frozen I
                        have HN2 := Aside0.mk (show rs_new W I = (rd W ((I - 16 : Nat) : Int) + rd W ((I - 7 : Nat) : Int) + rs_small (rd W ((I - 15 : Nat) : Int)) + rs_great (rd W ((I - 2 : Nat) : Int))) % 4294967296 from rfl)
                        obtain ⟨n1, n2⟩ := s15
                        obtain ⟨o1, o2⟩ := s2_
                        obtain ⟨p1, p2⟩ := s16
                        obtain ⟨q1, q2⟩ := s7
                        generalize I - 15 = J15 at *
                        generalize I - 2 = J2 at *
                        generalize I - 16 = J16 at *
                        generalize I - 7 = J7 at *
                        clear hi hlt
                        go_wp2_with fail
                        go_quiet (fail)
                        go_wp2_with fail
                        refine wp_region_still_tail 29 (by kernel_rfl) (by kernel_rfl) ?_
                        simp only [List.take_succ_cons, List.take_zero, List.drop_succ_cons, List.drop_zero]
                        change wpStill _ _ (wr.drewN nq).drew (fun a' => wpList _ _ _ _ a' (wr.drewN nq).drew) _ _
                        replace z16 : (wr.drewN nq).drew.cell? _ = _ := z16
                        replace z7 : (wr.drewN nq).drew.cell? _ = _ := z7
                        replace zI : (wr.drewN nq).drew.cell? _ = _ := zI
                        replace hf : (wr.drewN nq).drew.frozen? _ = _ := hf
                        have Y5 := Aside0.mk (show Arr (wr.drewN nq).drew _ _ _ from H5.out)
                        have Y6 := Aside0.mk (show Arr (wr.drewN nq).drew _ _ _ from H6.out)
                        have Y8 := Aside0.mk (show Arr (wr.drewN nq).drew _ _ _ from H8.out)
                        have YB := Aside0.mk (show Below w.heap.size w (wr.drewN nq).drew from pw_below_drewN HB.out (nq + 1))
                        clear H5 H6 H8 HB z15 z2
                        generalize (wr.drewN nq).drew = wd at *
                        repeat still_step
                        still_call (tn_same _ 7 (by decide) _)
                        repeat still_step
                        still_call (tn_same _ 18 (by decide) _)
                        repeat still_step
                        still_call (tn_same _ 17 (by decide) _)
                        repeat still_step
                        still_call (tn_same _ 19 (by decide) _)
                        repeat still_step
                        refine wpStill_nil ?_
                        go_wp2_with fail
                        go_roundw
                        case rel =>
                          refine ⟨i + 1, by rw [show ((16 + (i + 1) : Nat) : Int) = (I : Int) + 1 by omega], by omega, ⟨Y5.out.far _ _ (by show _ ≠ g8; omega)⟩, ⟨Y6.out.far _ _ (by show _ ≠ g8; omega)⟩, ⟨?_⟩, ⟨below_set YB.out (by omega)⟩⟩
                          rw [HN.out, HN2.out]
                          exact Y8.out.set I (by rw [hl.out]; omega) _
                        case measure =>
                          simp [intOf]
                          omega
                    · obtain rfl : I = 64 := by omega
                      obtain rfl : i = 48 := by omega
                      have HL0 := hl
                      clear hlt hi HN hl
                      have hW2 := Aside0.mk hW
                      clear hW hI
                      have h8 := rs_blocks_length s2 k
                      have HV := Aside0.mk (show rs_blocks s2 (k + 1) = rs_block (rs_blocks s2 k) s2 (64 * k) from rfl)
                      generalize hV : rs_blocks s2 k = V at *
                      obtain ⟨v0, v1, v2, v3, v4, v5, v6, v7, rfl⟩ := eight h8
                      replace hV := Aside0.mk hV
                      clear h8
                      go_upto_region 24 with (fail)
                      apply wp_region_lit
                      refine wpList_load_row rfl 71 (.tmp 5) rfl g5 rfl 71 (u32s [v0, v1, v2, v3, v4, v5, v6, v7]) (0, 0) _ H5.out Try.underlying71 rfl (by kernel_rfl) ?_
                      refine Go.Great.wpList_allocTo rfl (some 13) rfl (.pointer (some ⟨wr.heap.size, 0, none⟩)) (.cells (u32s (List.replicate 8 0)) 71) (by kernel_rfl) ?_
                      refine wpList_store_row rfl 71 (.tmp 13) (.tmp 118) rfl wr.heap.size (u32s [v0, v1, v2, v3, v4, v5, v6, v7]) rfl rfl 71 _ (heap_alloc_new wr _) (by kernel_rfl) rfl (by kernel_rfl) ?_
                      refine wpList_nil ?_
                      have k5 := H5.out.lt
                      have k6 := H6.out.lt
                      have k8 := H8.out.lt
                      have hgw3 := HB.out.size
                      have X5 : Aside0 (Arr ((wr.alloc (.cells (u32s (List.replicate 8 0)) 71)).setRow wr.heap.size (u32s [v0, v1, v2, v3, v4, v5, v6, v7])) g5 71 [v0, v1, v2, v3, v4, v5, v6, v7]) := ⟨(H5.out.alloc _).rowFar (by omega)⟩
                      have X6 : Aside0 (Arr ((wr.alloc (.cells (u32s (List.replicate 8 0)) 71)).setRow wr.heap.size (u32s [v0, v1, v2, v3, v4, v5, v6, v7])) g6 72 sum_saltsV) := ⟨(H6.out.alloc _).rowFar (by omega)⟩
                      have X8 : Aside0 (Arr ((wr.alloc (.cells (u32s (List.replicate 8 0)) 71)).setRow wr.heap.size (u32s [v0, v1, v2, v3, v4, v5, v6, v7])) g8 72 W) := ⟨(H8.out.alloc _).rowFar (by omega)⟩
                      have X13 : Aside0 (Arr ((wr.alloc (.cells (u32s (List.replicate 8 0)) 71)).setRow wr.heap.size (u32s [v0, v1, v2, v3, v4, v5, v6, v7])) wr.heap.size 71 (rs_rounds [v0, v1, v2, v3, v4, v5, v6, v7] W 0)) := ⟨(Arr.newAt wr 71 (List.replicate 8 0) rfl _ rfl).row⟩
                      have XB : Aside0 (Below w.heap.size w ((wr.alloc (.cells (u32s (List.replicate 8 0)) 71)).setRow wr.heap.size (u32s [v0, v1, v2, v3, v4, v5, v6, v7]))) := ⟨below_row (below_alloc HB.out _) (by omega)⟩
                      generalize (wr.alloc (.cells (u32s (List.replicate 8 0)) 71)).setRow wr.heap.size (u32s [v0, v1, v2, v3, v4, v5, v6, v7]) = w4 at *
                      generalize wr.heap.size = g13 at *
                      clear H5 H6 H8 HB
                      simp only [Act.put, List.setIfInBounds_toArray, List.set_cons_zero, List.set_cons_succ]
                      generalize Value.agg (u32s [v0, v1, v2, v3, v4, v5, v6, v7]) = u118v
                      go_wp2_with fail
                      simp only [Int.cast_ofNat_Int]
                      have HRL := rs_rounds_length [v0, v1, v2, v3, v4, v5, v6, v7] W rfl
                      go_loopw [14] (fun u14 wr => ∃ (i : Nat), u14 = .int .i64 i ∧ i ≤ 64 ∧ Aside0 (Arr wr g5 71 [v0, v1, v2, v3, v4, v5, v6, v7]) ∧ Aside0 (Arr wr g6 72 sum_saltsV) ∧ Aside0 (Arr wr g8 72 W) ∧ Aside0 (Arr wr g13 71 (rs_rounds [v0, v1, v2, v3, v4, v5, v6, v7] W i)) ∧ Aside0 (Below w.heap.size w wr)) (fun u14 _ => 64 - (intOf u14).toNat)
                      case atStart => exact ⟨0, rfl, by omega, X5, X6, X8, X13, XB⟩
                      case round =>
                        clear X5 X6 X8 X13 XB
                        obtain ⟨i, rfl, hi, H5, H6, H8, H13, HB⟩ := hrel
                        by_cases hlt : i < 64
                        · have hl := HRL i
                          have HN := Aside0.mk (show rs_rounds [v0, v1, v2, v3, v4, v5, v6, v7] W (i + 1) = rs_step (rs_rounds [v0, v1, v2, v3, v4, v5, v6, v7] W i) (rd sum_saltsV (i : Int)) (rd W (i : Int)) from rfl)
                          generalize hX : rs_rounds [v0, v1, v2, v3, v4, v5, v6, v7] W i = X at *
                          obtain ⟨x0, x1, x2, x3, x4, x5, x6, x7, rfl⟩ := eight hl
                          clear hX hl
                          have hlt' : ((i : Nat) : Int) < 64 := by omega
                          have c43 : decide ((i : Int) < 64) = true := decide_eq_true hlt'
                          have hi0 : (0 : Int) ≤ (i : Int) := Int.natCast_nonneg i
                          have zs := H6.out.cellN i hlt
                          have ze := H8.out.cellN i (by rw [HL0.out]; exact hlt)
                          have y0 : wr.cell? ⟨g13, 0, none⟩ = some (.int .u32 x0) := H13.out.cellN 0 (by show 0 < 8; omega)
                          have y1 : wr.cell? ⟨g13, 1, none⟩ = some (.int .u32 x1) := H13.out.cellN 1 (by show 1 < 8; omega)
                          have y2 : wr.cell? ⟨g13, 2, none⟩ = some (.int .u32 x2) := H13.out.cellN 2 (by show 2 < 8; omega)
                          have y3 : wr.cell? ⟨g13, 3, none⟩ = some (.int .u32 x3) := H13.out.cellN 3 (by show 3 < 8; omega)
                          have y4 : wr.cell? ⟨g13, 4, none⟩ = some (.int .u32 x4) := H13.out.cellN 4 (by show 4 < 8; omega)
                          have y5 : wr.cell? ⟨g13, 5, none⟩ = some (.int .u32 x5) := H13.out.cellN 5 (by show 5 < 8; omega)
                          have y6 : wr.cell? ⟨g13, 6, none⟩ = some (.int .u32 x6) := H13.out.cellN 6 (by show 6 < 8; omega)
                          have y7 : wr.cell? ⟨g13, 7, none⟩ = some (.int .u32 x7) := H13.out.cellN 7 (by show 7 < 8; omega)
                          go_wp2_with fail
                          go_cut [17] (fun v17 wc => ∃ nd, v17 = .int .u32 (rs_one x4 x5 x6 x7 (rd sum_saltsV (i : Int)) (rd W (i : Int))) ∧ wc = wr.drewN nd)
                          case first J1 K1 hJ1 hK1 =>
                            go_quiet ((go_at_call 48; refine tn_quiet0 _ _ ?_ _ _; decide))
                            refine hK1 _ _ ?_
                            go_meet
                            case rel =>
                              exact ⟨_, rfl, rfl⟩
                          case rest =>
                            obtain ⟨nd, rfl, rfl⟩ := hcut
                            generalize hone : rs_one x4 x5 x6 x7 (rd sum_saltsV (i : Int)) (rd W (i : Int)) = one at *
                            go_wp2_with fail
                            go_cut [18] (fun v18 wc => ∃ nd2, v18 = .int .u32 (rs_two x0 x1 x2) ∧ wc = wr.drewN nd2)
                            case first J2 K2 hJ2 hK2 =>
                              go_quiet ((go_at_call 48; refine tn_quiet _ _ ?_ _ _ _; decide))
                              refine hK2 _ _ ?_
                              go_meet
                              case rel =>
                                exact ⟨_, rfl, World.drewN_drewN _ _ _⟩
                            case rest =>
                              obtain ⟨nd2, rfl, rfl⟩ := hcut
                              generalize htwo : rs_two x0 x1 x2 = two at *
                              have Y5 := Aside0.mk (show Arr (wr.drewN nd2) _ _ _ from H5.out)
                              have Y6 := Aside0.mk (show Arr (wr.drewN nd2) _ _ _ from H6.out)
                              have Y8 := Aside0.mk (show Arr (wr.drewN nd2) _ _ _ from H8.out)
                              have Y13 := Aside0.mk (show Arr (wr.drewN nd2) _ _ _ from H13.out)
                              have YB := Aside0.mk (show Below w.heap.size w (wr.drewN nd2) from pw_below_drewN HB.out nd2)
                              replace y0 : (wr.drewN nd2).cell? _ = _ := y0
                              replace y1 : (wr.drewN nd2).cell? _ = _ := y1
                              replace y2 : (wr.drewN nd2).cell? _ = _ := y2
                              replace y3 : (wr.drewN nd2).cell? _ = _ := y3
                              replace y4 : (wr.drewN nd2).cell? _ = _ := y4
                              replace y5 : (wr.drewN nd2).cell? _ = _ := y5
                              replace y6 : (wr.drewN nd2).cell? _ = _ := y6
                              replace y7 : (wr.drewN nd2).cell? _ = _ := y7
                              clear H5 H6 H8 H13 HB zs ze
                              generalize wr.drewN nd2 = wd at *
                              have f0 := Y13.out.frozen 0
                              have f1 := Y13.out.frozen 1
                              have f2 := Y13.out.frozen 2
                              have f3 := Y13.out.frozen 3
                              have f4 := Y13.out.frozen 4
                              have f5 := Y13.out.frozen 5
                              have f6 := Y13.out.frozen 6
                              have f7 := Y13.out.frozen 7
                              go_wp2_with fail
                              go_roundw
                              case rel =>
                                have e2 : rs_rounds [v0, v1, v2, v3, v4, v5, v6, v7] W (i + 1) = [(one + two) % 4294967296, x0, x1, x2, (x3 + one) % 4294967296, x4, x5, x6] := by
                                  rw [HN.out, ← hone, ← htwo]
                                  rfl
                                refine ⟨i + 1, rfl, by omega, ⟨Y5.out.far8 (by omega) _ _ _ _ _ _ _ _⟩, ⟨Y6.out.far8 (by omega) _ _ _ _ _ _ _ _⟩, ⟨Y8.out.far8 (by omega) _ _ _ _ _ _ _ _⟩, ⟨?_⟩, ⟨below8 YB.out (by omega) _ _ _ _ _ _ _ _⟩⟩
                                rw [e2]
                                exact Y13.out.set8 _ _ _ _ _ _ _ _
                              case measure =>
                                simp [intOf]
                                omega
                        · obtain rfl : i = 64 := by omega
                          have hl := HRL 64
                          have HX2 := Aside0.mk (show rs_block [v0, v1, v2, v3, v4, v5, v6, v7] s2 (64 * k) = sum_add [v0, v1, v2, v3, v4, v5, v6, v7] (rs_rounds [v0, v1, v2, v3, v4, v5, v6, v7] W 64) 8 by rw [rs_block, hA.out, hE0.out, hW2.out])
                          generalize hX : rs_rounds [v0, v1, v2, v3, v4, v5, v6, v7] W 64 = X at *
                          have HXL := Aside0.mk hl
                          clear hX hl hlt hi HRL
                          go_wp2_with fail
                          simp only [Int.cast_ofNat_Int]
                          go_loopw [19] (fun u19 wr => ∃ (i : Nat), u19 = .int .i64 i ∧ i ≤ 8 ∧ Aside0 (Arr wr g5 71 (sum_add [v0, v1, v2, v3, v4, v5, v6, v7] X i)) ∧ Aside0 (Arr wr g6 72 sum_saltsV) ∧ Aside0 (Arr wr g13 71 X) ∧ Aside0 (Below w.heap.size w wr)) (fun u19 _ => 8 - (intOf u19).toNat)
                          case atStart => exact ⟨0, rfl, by omega, H5, H6, H13, HB⟩
                          case round =>
                            clear H5 H6 H8 H13 HB
                            obtain ⟨i, rfl, hi, H5, H6, H13, HB⟩ := hrel
                            by_cases hlt : i < 8
                            · have hlt' : ((i : Nat) : Int) < 8 := by omega
                              have c160 : decide ((i : Int) < 8) = true := decide_eq_true hlt'
                              have hi0 : (0 : Int) ≤ (i : Int) := Int.natCast_nonneg i
                              have y1 := H5.out.cellN i (by rw [sum_add_length _ _ 8 rfl]; exact hlt)
                              have y2 := H13.out.cellN i (by rw [HXL.out]; exact hlt)
                              have y3 := H5.out.frozen i
                              go_wp2_with fail
                              refine wp_region_still_tail 8 (by kernel_rfl) (by kernel_rfl) ?_
                              simp only [List.take_succ_cons, List.take_zero, List.drop_succ_cons, List.drop_zero]
                              change wpStill _ _ wr.drew (fun a' => wpList _ _ _ _ a' wr.drew) _ _
                              replace y1 : wr.drew.cell? _ = _ := y1
                              replace y2 : wr.drew.cell? _ = _ := y2
                              replace y3 : wr.drew.frozen? _ = _ := y3
                              have Y5 := Aside0.mk (show Arr wr.drew _ _ _ from H5.out)
                              have Y6 := Aside0.mk (show Arr wr.drew _ _ _ from H6.out)
                              have Y13 := Aside0.mk (show Arr wr.drew _ _ _ from H13.out)
                              have YB := Aside0.mk (show Below w.heap.size w wr.drew from pw_below_drewN HB.out 1)
                              clear H5 H6 H13 HB
                              generalize wr.drew = wd at *
                              repeat still_step
                              refine wpStill_nil ?_
                              go_wp2_with fail
                              go_roundw
                              case rel =>
                                refine ⟨i + 1, rfl, by omega, ⟨Y5.out.set i (by rw [sum_add_length _ _ 8 rfl]; exact hlt) _⟩, ⟨Y6.out.far _ _ (by show _ ≠ g5; omega)⟩, ⟨Y13.out.far _ _ (by show _ ≠ g5; omega)⟩, ⟨below_set YB.out (by omega)⟩⟩
                              case measure =>
                                simp [intOf]
                                omega
                            · obtain rfl : i = 8 := by omega
                              clear hlt hi
                              have HZ2 := HZ.out
                              have hp64 := rs_plus64 A (by omega)
                              clear HZ2
                              go_wp2_with fail
                              clear hp64
                              go_roundw
                              case rel =>
                                refine ⟨k + 1, by rw [show ((64 * (k + 1) : Nat) : Int) = (A : Int) + 64 by have := hA.out; omega], by have := hA.out; omega, ⟨?_⟩, H6, HB⟩
                                rw [HV.out, HX2.out]
                                exact H5.out
                              case measure =>
                                simp [intOf]
                                omega
            · as_aux_lemma =>
                have hlt' : ¬ (A : Int) < (s2.size : Int) := by omega
                have hz := HM.out
                have hkk : k = s2.size / 64 := by have := hA.out; omega
                have HKK := Aside0.mk hkk
                have HHL := Aside0.mk (rs_blocks_length s2 k)
                have HHE := Aside0.mk (show rs_blocks s2 k = rs_blocks s2 k from rfl)
                generalize hH : rs_blocks s2 k = H at *
                replace hH := Aside0.mk hH
                clear HHE hz hkk hlt hk hm64
                go_wp2_with fail
                try simp only [Int.cast_ofNat_Int]
                have h5lt := H5.out.lt
                go_loopw [20, 21] (fun u20 u21 wr => ∃ (i : Nat), u20 = .string (rs_out H i) ∧ u21 = .int .i64 i ∧ i ≤ 32 ∧ Aside0 (Arr wr g5 71 H) ∧ Aside0 (Below w.heap.size w wr)) (fun _ u21 _ => 32 - (intOf u21).toNat)
                case atStart => exact ⟨0, rfl, rfl, by omega, H5, HB⟩
                case round =>
                  clear H5 H6 HB
                  obtain ⟨i, rfl, rfl, hi, H5, HB⟩ := hrel
                  have hz := rs_out_size H i
                  generalize hO : rs_out H i = O at *
                  replace hO := Aside0.mk hO
                  by_cases hlt : i < 32
                  · have hlt' : ((i : Nat) : Int) < 32 := by omega
                    have c160 : decide ((i : Int) < 32) = true := decide_eq_true hlt'
                    have hw := H5.out.cellN (i / 4) (by rw [HHL.out]; omega)
                    have q0 : (0 : Int) ≤ (i : Int) / 4 := by omega
                    have q1 : (i : Int) / 4 < 8 := by omega
                    have q2 : ((i : Int) / 4).toNat = i / 4 := by omega
                    have e4 : (0 : Int) ≤ 24 - (i : Int) % 4 * 8 := by omega
                    have e5 : (24 - (i : Int) % 4 * 8).toNat = 24 - i % 4 * 8 := by omega
                    have e6 : Int.tmod (i : Int) 4 = (i : Int) % 4 := rfl
                    have hcs : (convert 31 9 (.slice (some ⟨wr.heap.size, 0, none⟩) 1 1)).run Try.prog (wr.alloc (.cells #[.int .u8 (rd H ((i : Int) / 4) / 2 ^ (24 - i % 4 * 8) % 256)] 5)) = .ok (.string (strOfNums [rd H ((i : Int) / 4) / 2 ^ (24 - i % 4 * 8) % 256])) (wr.alloc (.cells #[.int .u8 (rd H ((i : Int) / 4) / 2 ^ (24 - i % 4 * 8) % 256)] 5)) :=
                      own_string (P := Try.prog) (src := 31) (dst := 9) Try.underlying31 Try.underlying5 Try.underlying9 (own_lit wr w.heap.size 5 .u8 [rd H ((i : Int) / 4) / 2 ^ (24 - i % 4 * 8) % 256] HB.out.size (by simp))
                    have e1 : (strOfNums [rd H ((i : Int) / 4) / 2 ^ (24 - i % 4 * 8) % 256]).size = 1 := by rw [strOfNums_size]; rfl
                    have c1 : (9223372036854775807 < O.size + (strOfNums [rd H ((i : Int) / 4) / 2 ^ (24 - i % 4 * 8) % 256]).size) = False := eq_false (by rw [e1]; omega)
                    have c2 : (9223372036854775807 < O.size + 1) = False := eq_false (by omega)
                    have hq := rs_quo i (by omega)
                    clear hz
                    go_wp2_with fail
                    clear hq
                    go_roundw
                    case rel =>
                      refine ⟨i + 1, ?_, rfl, by omega, ⟨H5.out.alloc _⟩, ⟨below_alloc HB.out _⟩⟩
                      rw [rs_out, hO.out]
                    case measure =>
                      simp [intOf]
                      omega
                  · obtain rfl : i = 32 := by omega
                    go_wp2_with fail
                    go_ret
                    refine ⟨?_, HB.out⟩
                    rw [rs_hash, HF.out, ← HKK.out, hH.out, hO.out]
                    rfl
    · have c2 : (((s.size : Int) % 64) != 56) = true := by rw [bne_iff_ne]; omega
      have hk1 : k + 1 ≤ rs_pads t.size := by unfold rs_pads at hkp ⊢; omega
      have hk64 : k ≤ 63 := by unfold rs_pads at hkp; omega
      have c1 : (9223372036854775807 < s.size + 1) = False := eq_false (by omega)
      go_wp2_with fail
      go_roundw
      case rel =>
        refine ⟨k + 1, by rw [rs_pad, HS.out], ⟨hk1⟩, HB⟩
      case measure =>
        show t.size + 200 - (s ++ (⟨#[0]⟩ : ByteArray)).size < t.size + 200 - s.size
        rw [ByteArray.size_append]
        have : (⟨#[0]⟩ : ByteArray).size = 1 := rfl
        omega
/-! ### the words of both, in 32 bits -/
def U (b : BitVec 32) : Int := (b.toNat : Int)
theorem U_of {x : Int} (h0 : 0 ≤ x) (h1 : x < 4294967296) : ∃ b, x = U b := by
  refine ⟨BitVec.ofNat 32 x.toNat, ?_⟩
  unfold U
  rw [BitVec.toNat_ofNat]
  omega
theorem U_range (b : BitVec 32) : 0 ≤ U b ∧ U b < 4294967296 := by
  unfold U
  have := b.isLt
  omega
theorem ofInt_U (b : BitVec 32) : BitVec.ofInt 32 (U b) = b := by
  apply BitVec.eq_of_toNat_eq
  have := b.isLt
  unfold U
  rw [BitVec.toNat_ofInt]
  omega
theorem wrap_nat (b : BitVec 32) : IntKind.u32.wrap (b.toNat : Int) = U b := by
  rw [IntKind.wrap_u32]
  have := b.isLt
  unfold U
  omega
theorem and_U (a b : BitVec 32) : Go.bits .and .u32 (U a) (U b) = U (a &&& b) := by
  show IntKind.u32.wrap ((BitVec.ofInt 32 (U a) &&& BitVec.ofInt 32 (U b)).toNat : Int) = _
  rw [ofInt_U, ofInt_U, wrap_nat]
theorem or_U (a b : BitVec 32) : Go.bits .or .u32 (U a) (U b) = U (a ||| b) := by
  show IntKind.u32.wrap ((BitVec.ofInt 32 (U a) ||| BitVec.ofInt 32 (U b)).toNat : Int) = _
  rw [ofInt_U, ofInt_U, wrap_nat]
theorem xor_U (a b : BitVec 32) : Go.bits .xor .u32 (U a) (U b) = U (a ^^^ b) := by
  show IntKind.u32.wrap ((BitVec.ofInt 32 (U a) ^^^ BitVec.ofInt 32 (U b)).toNat : Int) = _
  rw [ofInt_U, ofInt_U, wrap_nat]
theorem add_U (a b : BitVec 32) : (U a + U b) % 4294967296 = U (a + b) := by
  unfold U
  rw [BitVec.toNat_add]
  omega
theorem not_U (a : BitVec 32) : (4294967295 - U a) % 4294967296 = U (~~~a) := by
  unfold U
  rw [BitVec.toNat_not]
  have := a.isLt
  omega
theorem flip_U (a : BitVec 32) : Go.bits .xor .u32 (if IntKind.u32.signed = true then -1 else IntKind.u32.max) (U a) = U (~~~a) := by
  have e : (if IntKind.u32.signed = true then -1 else IntKind.u32.max : Int) = U (BitVec.allOnes 32) := by decide
  rw [e, xor_U, BitVec.allOnes_xor]
theorem shr_U (a : BitVec 32) (n : Nat) (h : n ≤ 32) : shr .u32 (U a) (n : Int) = U (a >>> n) := by
  unfold shr U
  rw [Int.toNat_natCast, show IntKind.u32.bits = 32 from rfl, Nat.min_eq_left h, BitVec.toNat_ushiftRight, Nat.shiftRight_eq_div_pow]
  exact (Int.natCast_ediv _ _).symm
theorem shl_U (a : BitVec 32) (n : Nat) (h : n ≤ 32) : shl .u32 (U a) (n : Int) = U (a <<< n) := by
  unfold shl U
  rw [Int.toNat_natCast, show IntKind.u32.bits = 32 from rfl, Nat.min_eq_left h, BitVec.toNat_shiftLeft, Nat.shiftLeft_eq, IntKind.wrap_u32]
  rw [show ((2 : Int) ^ n) = ((2 ^ n : Nat) : Int) by norm_cast, ← Int.natCast_mul]
  exact (Int.natCast_emod _ _).symm
theorem apart (x : BitVec 32) (k m : Nat) (h : k + m = 32) : x >>> m &&& x <<< k = 0#32 := by
  apply BitVec.eq_of_getLsbD_eq
  intro i hi
  simp only [BitVec.getLsbD_and, BitVec.getLsbD_ushiftRight, BitVec.getLsbD_shiftLeft, BitVec.getLsbD_zero]
  by_cases c : i < k
  · simp [c]
  · have : x.getLsbD (m + i) = false := BitVec.getLsbD_of_ge _ _ (by omega)
    simp [this]
theorem rot_tn (x : Int) (h0 : 0 ≤ x) (h1 : x < 4294967296) (k m : Nat) (h : k + m = 32) : rot x (k : Int) = tn x (m : Int) := by
  obtain ⟨b, rfl⟩ := U_of h0 h1
  unfold rot tn
  rw [show (32 : Int) - (k : Int) = (m : Int) by omega, show (32 : Int) - (m : Int) = (k : Int) by omega, shl_U b k (by omega), shr_U b m (by omega), or_U, add_U, BitVec.add_eq_or_of_and_eq_zero _ _ (apart b k m h), BitVec.or_comm]
def InR (x : Int) : Prop := 0 ≤ x ∧ x < 4294967296
theorem small_eq {x : Int} (h : InR x) : sum_small x = rs_small x := by
  have e1 := rot_tn x h.1 h.2 25 7 rfl
  have e2 := rot_tn x h.1 h.2 14 18 rfl
  unfold sum_small rs_small
  rw [show rot x 25 = tn x 7 from e1, show rot x 14 = tn x 18 from e2]
theorem great_eq {x : Int} (h : InR x) : sum_great x = rs_great x := by
  have e1 := rot_tn x h.1 h.2 15 17 rfl
  have e2 := rot_tn x h.1 h.2 13 19 rfl
  unfold sum_great rs_great
  rw [show rot x 15 = tn x 17 from e1, show rot x 13 = tn x 19 from e2]
theorem choice_eq {a b c : Int} (ha : InR a) (hb : InR b) (hc : InR c) : (Go.bits .and .u32 a b + Go.bits .and .u32 ((4294967295 - a) % 4294967296) c) % 4294967296 = Go.bits .or .u32 (Go.bits .and .u32 a b) (Go.bits .and .u32 (Go.bits .xor .u32 (if IntKind.u32.signed = true then -1 else IntKind.u32.max) a) c) := by
  obtain ⟨a, rfl⟩ := U_of ha.1 ha.2
  obtain ⟨b, rfl⟩ := U_of hb.1 hb.2
  obtain ⟨c, rfl⟩ := U_of hc.1 hc.2
  rw [not_U, flip_U, and_U, and_U, or_U, add_U, BitVec.add_eq_or_of_and_eq_zero]
  apply BitVec.eq_of_getLsbD_eq
  intro i hi
  simp only [BitVec.getLsbD_and, BitVec.getLsbD_not, BitVec.getLsbD_zero]
  cases a.getLsbD i <;> simp
theorem most_eq {a b c : Int} (ha : InR a) (hb : InR b) (hc : InR c) : Go.bits .xor .u32 (Go.bits .xor .u32 (Go.bits .and .u32 a b) (Go.bits .and .u32 a c)) (Go.bits .and .u32 b c) = rs_most a b c := by
  obtain ⟨a, rfl⟩ := U_of ha.1 ha.2
  obtain ⟨b, rfl⟩ := U_of hb.1 hb.2
  obtain ⟨c, rfl⟩ := U_of hc.1 hc.2
  unfold rs_most
  rw [and_U, and_U, and_U, xor_U, xor_U, or_U, or_U]
  congr 1
  apply BitVec.eq_of_getLsbD_eq
  intro i hi
  simp only [BitVec.getLsbD_and, BitVec.getLsbD_or, BitVec.getLsbD_xor]
  cases a.getLsbD i <;> cases b.getLsbD i <;> cases c.getLsbD i <;> rfl
theorem in_mod (x : Int) : InR (x % 4294967296) := ⟨Int.emod_nonneg _ (by decide), Int.emod_lt_of_pos _ (by decide)⟩
theorem one_eq {x4 x5 x6 : Int} (x7 k w : Int) (h4 : InR x4) (h5 : InR x5) (h6 : InR x6) : sum_one x4 x5 x6 x7 k w = rs_one x4 x5 x6 x7 k w := by
  have hc := choice_eq h4 h5 h6
  have e1 := rot_tn x4 h4.1 h4.2 26 6 rfl
  have e2 := rot_tn x4 h4.1 h4.2 21 11 rfl
  have e3 := rot_tn x4 h4.1 h4.2 7 25 rfl
  unfold sum_one rs_one
  rw [show rot x4 26 = tn x4 6 from e1, show rot x4 21 = tn x4 11 from e2, show rot x4 7 = tn x4 25 from e3, ← hc]
  generalize Go.bits .xor .u32 (Go.bits .xor .u32 (tn x4 6) (tn x4 11)) (tn x4 25) = X
  generalize Go.bits .and .u32 x4 x5 + Go.bits .and .u32 ((4294967295 - x4) % 4294967296) x6 = s
  omega
theorem two_eq {x0 x1 x2 : Int} (h0 : InR x0) (h1 : InR x1) (h2 : InR x2) : sum_two x0 x1 x2 = rs_two x0 x1 x2 := by
  have hm := most_eq h0 h1 h2
  have e1 := rot_tn x0 h0.1 h0.2 30 2 rfl
  have e2 := rot_tn x0 h0.1 h0.2 19 13 rfl
  have e3 := rot_tn x0 h0.1 h0.2 10 22 rfl
  unfold sum_two rs_two
  rw [show rot x0 30 = tn x0 2 from e1, show rot x0 19 = tn x0 13 from e2, show rot x0 10 = tn x0 22 from e3, hm]
  rw [Int.add_comm]
theorem rd_set_ne (xs : List Int) (i : Nat) (v : Int) (j : Nat) (h : i ≠ j) : rd (xs.set i v) (j : Int) = rd xs (j : Int) := by
  unfold rd
  rw [Int.toNat_natCast, List.getD_eq_getElem?_getD, List.getD_eq_getElem?_getD, List.getElem?_set, if_neg h]
theorem rd_set_eq (xs : List Int) (i : Nat) (v : Int) (h : i < xs.length) : rd (xs.set i v) (i : Int) = v := by
  unfold rd
  rw [Int.toNat_natCast, List.getD_eq_getElem?_getD, List.getElem?_set, if_pos rfl, if_pos h]
  rfl
def R (xs : List Int) : Prop := ∀ j : Nat, InR (rd xs (j : Int))
theorem in_zero : InR 0 := ⟨by decide, by decide⟩
theorem R_set {xs : List Int} (h : R xs) (i : Nat) {v : Int} (hv : InR v) : R (xs.set i v) := by
  intro j
  by_cases e : i = j
  · subst e
    by_cases hl : i < xs.length
    · rw [rd_set_eq _ _ _ hl]
      exact hv
    · rw [List.set_eq_of_length_le (by omega)]
      exact h i
  · rw [rd_set_ne _ _ _ _ e]
    exact h j
theorem R_zero (n : Nat) : R (List.replicate n 0) := by
  intro j
  unfold rd
  rw [List.getD_eq_getElem?_getD, List.getElem?_replicate]
  split <;> exact in_zero
theorem R8 {x0 x1 x2 x3 x4 x5 x6 x7 : Int} (h0 : InR x0) (h1 : InR x1) (h2 : InR x2) (h3 : InR x3) (h4 : InR x4) (h5 : InR x5) (h6 : InR x6) (h7 : InR x7) : R [x0, x1, x2, x3, x4, x5, x6, x7] := by
  intro j
  match j with
  | 0 => exact h0
  | 1 => exact h1
  | 2 => exact h2
  | 3 => exact h3
  | 4 => exact h4
  | 5 => exact h5
  | 6 => exact h6
  | 7 => exact h7
  | n + 8 => exact in_zero
theorem or_byte {x b : Int} (hx : InR x) (h0 : 0 ≤ b) (h1 : b ≤ 255) : Go.bits .or .u32 (x * 256 % 4294967296) (b % 4294967296) = (x * 256 + b) % 4294967296 := by
  obtain ⟨x, rfl⟩ := U_of hx.1 hx.2
  have hb : b % 4294967296 = b := by omega
  rw [hb]
  obtain ⟨c, rfl⟩ := U_of h0 (show b < 4294967296 by omega)
  have e : (U x * (256 : Int)) % (4294967296 : Int) = U (x <<< 8) := by
    have := shl_U x 8 (by omega)
    unfold shl at this
    rw [IntKind.wrap_u32] at this
    exact this
  have e2 : (U x * (256 : Int) + U c) % (4294967296 : Int) = (U (x <<< 8) + U c) % (4294967296 : Int) := by rw [← e]; omega
  rw [e2, e, or_U, add_U, BitVec.add_eq_or_of_and_eq_zero]
  apply BitVec.eq_of_getLsbD_eq
  intro i hi
  simp only [BitVec.getLsbD_and, BitVec.getLsbD_shiftLeft, BitVec.getLsbD_zero]
  by_cases q : i < 8
  · simp [q]
  · have hc : c.toNat < 2 ^ 8 := by
      unfold U at h1
      omega
    have : c.getLsbD i = false := Nat.testBit_lt_two_pow (Nat.lt_of_lt_of_le hc (Nat.pow_le_pow_right (by decide) (by omega)))
    simp [this]
theorem take_rel (p : List Int) (s : ByteArray) (a : Nat) (h : ∀ i : Nat, i < 64 → rd p (i : Int) = bt s ((a + i : Nat) : Int)) : ∀ i, i ≤ 64 → (∀ k : Nat, k < 16 → rd (rs_take s a i) (k : Int) = rd (sum_take p i) (k : Int)) ∧ R (sum_take p i) ∧ R (rs_take s a i)
  | 0, _ => by
    refine ⟨fun k hk => ?_, R_zero 16, R_zero 64⟩
    unfold rs_take sum_take rd
    rw [List.getD_eq_getElem?_getD, List.getD_eq_getElem?_getD, List.getElem?_replicate, List.getElem?_replicate]
    split <;> split <;> rfl
  | i + 1, hi => by
    obtain ⟨ih, hr, hr2⟩ := take_rel p s a h i (by omega)
    have hb := bt_range s ((a + i : Nat) : Int)
    have e4 : (i : Int) / 4 = ((i / 4 : Nat) : Int) := by omega
    have ev : Go.bits .or .u32 (rd (sum_take p i) ((i : Int) / 4) * 256 % 4294967296) (rd p (i : Int) % 4294967296) = (rd (rs_take s a i) ((i : Int) / 4) * 256 + bt s ((a + i : Nat) : Int)) % 4294967296 := by
      rw [h i (by omega), e4, ih (i / 4) (by omega)]
      exact or_byte (hr _) hb.1 hb.2
    rw [sum_take, rs_take, ev]
    refine ⟨fun k hk => ?_, R_set hr _ (in_mod _), R_set hr2 _ (in_mod _)⟩
    by_cases e : i / 4 = k
    · subst e
      rw [rd_set_eq _ _ _ (by rw [rs_take_length]; omega), rd_set_eq _ _ _ (by rw [sum_take_length]; omega)]
    · rw [rd_set_ne _ _ _ _ e, rd_set_ne _ _ _ _ e]
      exact ih k hk
theorem ext_keep (W : List Int) (k j : Nat) (h : k < 16 + j) : ∀ d, rd (rs_ext W (j + d)) (k : Int) = rd (rs_ext W j) (k : Int)
  | 0 => rfl
  | d + 1 => by
    rw [← Nat.add_assoc, rs_ext, rd_set_ne _ _ _ _ (by omega)]
    exact ext_keep W k j h d
theorem ext_at (W : List Int) (hW : W.length = 64) (i : Nat) (h16 : 16 ≤ i) (h64 : i < 64) : rd (rs_ext W 48) (i : Int) = rs_new (rs_ext W 48) i := by
  obtain ⟨j, rfl⟩ : ∃ j, i = 16 + j := ⟨i - 16, by omega⟩
  have e1 := ext_keep W (16 + j) (j + 1) (by omega) (47 - j)
  have e2 : rd (rs_ext W (j + 1)) ((16 + j : Nat) : Int) = rs_new (rs_ext W j) (16 + j) := by
    rw [rs_ext, rd_set_eq _ _ _ (by rw [rs_ext_length]; omega)]
  rw [show j + 1 + (47 - j) = 48 by omega, e2] at e1
  rw [e1]
  have kp : ∀ k, k < 16 + j → rd (rs_ext W 48) (k : Int) = rd (rs_ext W j) (k : Int) := fun k hk => by
    have := ext_keep W k j hk (48 - j)
    rw [show j + (48 - j) = 48 by omega] at this
    exact this
  unfold rs_new
  rw [kp (16 + j - 16) (by omega), kp (16 + j - 7) (by omega), kp (16 + j - 15) (by omega), kp (16 + j - 2) (by omega)]
theorem ext_R (W : List Int) (h : R W) : ∀ j, R (rs_ext W j)
  | 0 => h
  | j + 1 => by
    rw [rs_ext]
    exact R_set (ext_R W h j) _ (in_mod _)
def Win (W E : List Int) (m : Nat) : Prop := ∀ k : Nat, m ≤ k + 16 → k < m → rd W ((k % 16 : Nat) : Int) = rd E (k : Int)
theorem win_step {W E : List Int} (hW : W.length = 16) (hE : ∀ i : Nat, 16 ≤ i → i < 64 → rd E (i : Int) = rs_new E i) (hR : R E) (i : Nat) (h16 : 16 ≤ i) (h64 : i < 64) (h : Win W E i) : Win (sum_mix W i) E (i + 1) := by
  have a0 : rd W ((i : Int) % 16) = rd E ((i - 16 : Nat) : Int) := by
    rw [show (i : Int) % 16 = (((i - 16) % 16 : Nat) : Int) by omega]
    exact h (i - 16) (by omega) (by omega)
  have a1 : rd W (((i : Int) + 1) % 16) = rd E ((i - 15 : Nat) : Int) := by
    rw [show ((i : Int) + 1) % 16 = (((i - 15) % 16 : Nat) : Int) by omega]
    exact h (i - 15) (by omega) (by omega)
  have a9 : rd W (((i : Int) + 9) % 16) = rd E ((i - 7 : Nat) : Int) := by
    rw [show ((i : Int) + 9) % 16 = (((i - 7) % 16 : Nat) : Int) by omega]
    exact h (i - 7) (by omega) (by omega)
  have a14 : rd W (((i : Int) + 14) % 16) = rd E ((i - 2 : Nat) : Int) := by
    rw [show ((i : Int) + 14) % 16 = (((i - 2) % 16 : Nat) : Int) by omega]
    exact h (i - 2) (by omega) (by omega)
  have ev : sum_new W i = rd E (i : Int) := by
    rw [hE i h16 h64]
    unfold sum_new rs_new
    rw [a0, a1, a9, a14, small_eq (hR _), great_eq (hR _)]
    omega
  intro k h1 h2
  unfold sum_mix
  rw [if_pos h16, ev]
  by_cases e : k = i
  · subst e
    rw [rd_set_eq _ _ _ (by omega)]
  · rw [rd_set_ne _ _ _ _ (by omega)]
    exact h k (by omega) (by omega)
theorem step_eq {X : List Int} (hl : X.length = 8) (hR : R X) (k w : Int) : sum_step X k w = rs_step X k w ∧ R (rs_step X k w) := by
  obtain ⟨x0, x1, x2, x3, x4, x5, x6, x7, rfl⟩ := eight hl
  have r0 : InR x0 := hR 0
  have r1 : InR x1 := hR 1
  have r2 : InR x2 := hR 2
  have r4 : InR x4 := hR 4
  have r5 : InR x5 := hR 5
  have r6 : InR x6 := hR 6
  unfold sum_step rs_step
  simp only
  rw [one_eq x7 k w r4 r5 r6, two_eq r0 r1 r2]
  exact ⟨rfl, R8 (in_mod _) r0 r1 r2 (in_mod _) r4 r5 r6⟩
theorem rounds_eq (v W0 E : List Int) (hv : v.length = 8) (hvR : R v) (hW0 : W0.length = 16) (hE : ∀ i : Nat, 16 ≤ i → i < 64 → rd E (i : Int) = rs_new E i) (hR : R E) (h0 : Win W0 E 16) : ∀ i, i ≤ 64 → (sum_rounds v W0 i).1 = rs_rounds v E i ∧ Win (sum_rounds v W0 i).2 E (max i 16) ∧ R (rs_rounds v E i)
  | 0, _ => ⟨rfl, h0, hvR⟩
  | i + 1, hi => by
    obtain ⟨ih, hw, hx⟩ := rounds_eq v W0 E hv hvR hW0 hE hR h0 i (by omega)
    have hl := (sum_rounds_length v W0 hv hW0 i).2
    have hm : Win (sum_mix (sum_rounds v W0 i).2 i) E (max (i + 1) 16) ∧ rd (sum_mix (sum_rounds v W0 i).2 i) ((i : Int) % 16) = rd E (i : Int) := by
      generalize (sum_rounds v W0 i).2 = W at *
      by_cases h16 : 16 ≤ i
      · have h1 := win_step hl hE hR i h16 (by omega) (by rw [show max i 16 = i by omega] at hw; exact hw)
        refine ⟨by rw [show max (i + 1) 16 = i + 1 by omega]; exact h1, ?_⟩
        rw [show (i : Int) % 16 = ((i % 16 : Nat) : Int) by omega]
        exact h1 i (by omega) (by omega)
      · have e : sum_mix W i = W := by unfold sum_mix; rw [if_neg h16]
        rw [e]
        rw [show max i 16 = 16 by omega] at hw
        refine ⟨by rw [show max (i + 1) 16 = 16 by omega]; exact hw, ?_⟩
        rw [show (i : Int) % 16 = ((i % 16 : Nat) : Int) by omega]
        exact hw i (by omega) (by omega)
    obtain ⟨hs, hr⟩ := step_eq (rs_rounds_length v E hv i) hx (rd sum_saltsV (i : Int)) (rd E (i : Int))
    rw [sum_rounds, rs_rounds]
    refine ⟨?_, hm.1, hr⟩
    simp only
    rw [ih, hm.2, hs]
theorem add_R {v x : List Int} (h : R v) : ∀ i, R (sum_add v x i)
  | 0 => h
  | i + 1 => by
    rw [sum_add]
    exact R_set (add_R h i) _ (in_mod _)
theorem block_eq (v p : List Int) (s : ByteArray) (a : Nat) (hv : v.length = 8) (hR : R v) (h : ∀ i : Nat, i < 64 → rd p (i : Int) = bt s ((a + i : Nat) : Int)) : sum_block v p = rs_block v s a ∧ R (sum_block v p) := by
  obtain ⟨t1, t2, t3⟩ := take_rel p s a h 64 (by omega)
  have h0 : Win (sum_take p 64) (rs_ext (rs_take s a 64) 48) 16 := by
    intro k _ hk
    have := ext_keep (rs_take s a 64) k 0 (by omega) 48
    rw [Nat.zero_add] at this
    rw [this, Nat.mod_eq_of_lt hk]
    exact (t1 k hk).symm
  have hr := (rounds_eq v (sum_take p 64) (rs_ext (rs_take s a 64) 48) hv hR (sum_take_length p 64) (fun i h1 h2 => ext_at _ (rs_take_length s a 64) i h1 h2) (ext_R _ t3 48) h0 64 (by omega)).1
  refine ⟨?_, ?_⟩
  · rw [sum_block, rs_block, hr]
  · rw [sum_block]
    exact add_R hR 8
theorem bytes_rd (s : ByteArray) (i : Nat) : rd (bytesOf s) (i : Int) = bt s (i : Int) := by
  unfold rd bt bytesOf
  rw [Int.toNat_natCast, List.getD_eq_getElem?_getD, List.getElem?_map]
  by_cases h : i < s.size
  · rw [dif_pos (by simpa using h)]
    have : s.data.toList[i]? = some (s[i]'h) := by
      rw [Array.getElem?_toList]
      exact Array.getElem?_eq_getElem h
    rw [this]
    simp
  · rw [dif_neg (by simpa using h)]
    have : s.data.toList[i]? = none := by
      rw [Array.getElem?_toList]
      exact Array.getElem?_eq_none (by have : s.data.size = s.size := rfl; omega)
    rw [this]
    rfl
theorem rd_drop (l : List Int) (a i : Nat) : rd (l.drop a) (i : Int) = rd l ((a + i : Nat) : Int) := by
  unfold rd
  rw [Int.toNat_natCast, Int.toNat_natCast, List.getD_eq_getElem?_getD, List.getD_eq_getElem?_getD, List.getElem?_drop]
theorem rd_left (l m : List Int) (i : Nat) (h : i < l.length) : rd (l ++ m) (i : Int) = rd l (i : Int) := by
  unfold rd
  rw [Int.toNat_natCast, List.getD_eq_getElem?_getD, List.getD_eq_getElem?_getD, List.getElem?_append_left h]
theorem begin_R : R sum_beginV := R8 ⟨by decide, by decide⟩ ⟨by decide, by decide⟩ ⟨by decide, by decide⟩ ⟨by decide, by decide⟩ ⟨by decide, by decide⟩ ⟨by decide, by decide⟩ ⟨by decide, by decide⟩ ⟨by decide, by decide⟩
theorem phase1 (t S : ByteArray) (hS : ∀ j : Nat, j < t.size → bt S (j : Int) = bt t (j : Int)) : ∀ k, 64 * k ≤ t.size → rs_blocks S k = sum_blocks sum_beginV (bytesOf t) k ∧ R (rs_blocks S k)
  | 0, _ => ⟨rfl, begin_R⟩
  | k + 1, h => by
    obtain ⟨ih, hr⟩ := phase1 t S hS k (by omega)
    obtain ⟨b1, b2⟩ := block_eq (rs_blocks S k) ((bytesOf t).drop (64 * k)) S (64 * k) (rs_blocks_length S k) hr (fun i hi => by rw [rd_drop, bytes_rd, hS _ (by omega)])
    rw [rs_blocks, sum_blocks, ← ih, ← b1]
    exact ⟨rfl, b2⟩
theorem phase2 (S : ByteArray) (P : List Int) (q : Nat) (hr0 : R (rs_blocks S q)) (hP : ∀ j : Nat, 64 * q + j < S.size → rd P (j : Int) = bt S ((64 * q + j : Nat) : Int)) : ∀ k, 64 * (q + k) ≤ S.size → rs_blocks S (q + k) = sum_blocks (rs_blocks S q) P k ∧ R (rs_blocks S (q + k))
  | 0, _ => ⟨rfl, hr0⟩
  | k + 1, h => by
    obtain ⟨ih, hr⟩ := phase2 S P q hr0 hP k (by omega)
    obtain ⟨b1, b2⟩ := block_eq (rs_blocks S (q + k)) (P.drop (64 * k)) S (64 * (q + k)) (rs_blocks_length S (q + k)) hr (fun i hi => by
      rw [rd_drop, hP _ (by omega)]
      congr 2
      omega)
    rw [← Nat.add_assoc, rs_blocks, sum_blocks, ← ih, ← b1]
    exact ⟨rfl, b2⟩
theorem bytes_append (a b : ByteArray) : bytesOf (a ++ b) = bytesOf a ++ bytesOf b := by
  unfold bytesOf
  rw [ByteArray.data_append, Array.toList_append, List.map_append]
theorem bytes_one (x : Int) (h0 : 0 ≤ x) (h1 : x < 256) : bytesOf (strOfNums [x]) = [x] := by
  unfold bytesOf strOfNums
  simp
  omega
theorem bytes_pad (t : ByteArray) : ∀ k, bytesOf (rs_pad t k) = bytesOf t ++ [128] ++ List.replicate k 0
  | 0 => by rw [rs_pad, bytes_append, List.replicate_zero, List.append_nil]; rfl
  | k + 1 => by
    rw [rs_pad, bytes_append, bytes_pad t k, List.replicate_succ', ← List.append_assoc]
    rfl
theorem bytes_bits (s : ByteArray) (m n : Int) (hn : n = IntKind.u64.wrap (m * 8)) : ∀ i, i ≤ 8 → bytesOf (rs_bits s n i) = bytesOf s ++ sum_tail m i
  | 0, _ => by rw [rs_bits, sum_tail, List.append_nil]
  | i + 1, h => by
    rw [rs_bits, bytes_append, bytes_bits s m n hn i (by omega), bytes_one _ (Int.emod_nonneg _ (by decide)) (Int.emod_lt_of_pos _ (by decide)), sum_tail, List.append_assoc, hn, show 56 - 8 * i = 8 * (7 - i) by omega]
theorem bytes_length (s : ByteArray) : (bytesOf s).length = s.size := by
  unfold bytesOf
  rw [List.length_map]
  rfl
theorem str_append (xs ys : List Int) : strOfNums (xs ++ ys) = strOfNums xs ++ strOfNums ys := by
  apply ByteArray.ext
  rw [ByteArray.data_append]
  unfold strOfNums
  simp
theorem out_four (H : List Int) (i : Nat) (h : rs_out H (4 * i) = strOfNums (sum_out H i)) : ∀ j, j ≤ 4 → rs_out H (4 * i + j) = strOfNums (sum_out H i ++ sum_four (rd H (i : Int)) j)
  | 0, _ => by rw [sum_four, List.append_nil]; exact h
  | j + 1, hj => by
    rw [← Nat.add_assoc, rs_out, out_four H i h j (by omega), sum_four, ← List.append_assoc, str_append (_ ++ _)]
    rw [show ((4 * i + j : Nat) : Int) / 4 = (i : Int) by omega, show 24 - (4 * i + j) % 4 * 8 = 24 - 8 * j by omega]
theorem out_eq (H : List Int) : ∀ i, rs_out H (4 * i) = strOfNums (sum_out H i)
  | 0 => rfl
  | i + 1 => by
    have := out_four H i (out_eq H i) 4 (by omega)
    rw [show 4 * (i + 1) = 4 * i + 4 by omega, this]
    rfl
/-- The reference's sum is the program's. -/
theorem hash_eq (t : ByteArray) : rs_hash t = sum_hash t := by
  have hl := bytes_length t
  generalize hm : IntKind.u64.wrap (IntKind.u64.wrap (t.size : Int)) = m
  have hn : rs_len t = IntKind.u64.wrap (m * 8) := by
    rw [← hm]
    unfold rs_len
    simp only [IntKind.wrap_u64]
    omega
  have hS : bytesOf (rs_full t) = bytesOf t ++ [128] ++ List.replicate (rs_pads t.size) 0 ++ sum_tail m 8 := by
    rw [rs_full, bytes_bits _ m _ hn 8 (by omega), bytes_pad]
  have hd : ((bytesOf t).drop (64 * ((bytesOf t).length / 64))).length = t.size % 64 := by
    rw [List.length_drop, hl]
    omega
  have hp : sum_pads ((bytesOf t).drop (64 * ((bytesOf t).length / 64))).length = rs_pads t.size := by
    rw [hd]
    unfold sum_pads rs_pads
    split <;> omega
  generalize hq : (bytesOf t).length / 64 = q at *
  have hsplit : bytesOf (rs_full t) = (bytesOf t).take (64 * q) ++ sum_padded ((bytesOf t).drop (64 * q)) m := by
    rw [hS, sum_padded, hp]
    conv => lhs; rw [← List.take_append_drop (64 * q) (bytesOf t)]
    simp only [List.append_assoc]
  have htk : ((bytesOf t).take (64 * q)).length = 64 * q := by
    rw [List.length_take]
    omega
  generalize hP : sum_padded ((bytesOf t).drop (64 * q)) m = P at *
  have hsz : (rs_full t).size = 64 * q + P.length := by
    rw [← bytes_length, hsplit, List.length_append, htk]
  obtain ⟨p1, r1⟩ := phase1 t (rs_full t) (fun j hj => by
    rw [← bytes_rd, ← bytes_rd, hS, List.append_assoc, List.append_assoc]
    exact rd_left _ _ _ (by omega)) q (by omega)
  obtain ⟨p2, _⟩ := phase2 (rs_full t) P q r1 (fun j hj => by
    rw [← bytes_rd, hsplit, ← rd_drop, List.drop_left' htk]) (P.length / 64) (by omega)
  unfold rs_hash sum_hash sum_outcome
  rw [hsz, show (64 * q + P.length) / 64 = q + P.length / 64 by omega, p2, p1, hq, hm, hP]
  exact out_eq _ 8
def pollardref01_Sum.f (t : ByteArray) : Option ByteArray := if t.size ≤ 70368744177664 then some (sum_hash t) else none
theorem pollardref01_Sum.calls (t : ByteArray) (r : ByteArray) (w : World) (h : pollardref01_Sum.f t = some r) :
    Calls Try.prog 30 #[.string t] w fun e w' => e = .returned (.string r) ∧ Below w.heap.size w w' := by
  unfold pollardref01_Sum.f at h
  by_cases h1 : t.size ≤ 70368744177664
  · rw [if_pos h1] at h
    obtain rfl := Option.some.inj h
    rw [← hash_eq]
    exact rs_Sum.calls t w h1
  · rw [if_neg h1] at h
    cases h


end Go.Proofs.Ytnapcfpecpgdbaa.M
