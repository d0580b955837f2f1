/- The program's functions as plain functions, and that each call comes to what these tell; written by a program of this session, some contracts by hand. Conditions: none. -/
import Derived.Test.YtgepbdkbleapaaaMx0
namespace Go.Proofs.Ytgepbdkbleapaaa.M
open Go.RowKit Go.Proofs.YtgepbdkbleapaaaW.PrintWords Go.Proofs.YtgepbdkbleapaaaW.PrintLast Go.Proofs.YtgepbdkbleapaaaW.PrintMore
attribute [local go_sem] max2_int min2_int max_two min_two max_three min_three max_four min_four   -- for this text's walks alone
set_option linter.unusedVariables false
set_option linter.unusedSimpArgs false

/-! ### stringslite_HasPrefix: function 56 -/
def stringslite_HasPrefix.f (a0 : ByteArray) (a1 : ByteArray) : Option (Bool) := if (a0.size : Int) ≥ (a1.size : Int) then (if 0 ≤ (a1.size : Int) then (if (a1.size : Int) ≤ (a0.size : Int) then (some ((a0.extract 0 ((a1.size : Int) : Int).toNat).toList == a1.toList)) else (none)) else (none)) else (some false)
set_option maxHeartbeats 8000000 in
set_option maxRecDepth 100000 in
theorem stringslite_HasPrefix.calls (a0 : ByteArray) (a1 : ByteArray) (r : Bool) (w : World) (h : stringslite_HasPrefix.f a0 a1 = some r) :
    Calls Try.prog 56 #[.string a0, .string a1] w fun e w' => e = .returned (.bool r) ∧ Drawn0 w w' := by
  have H : (if (a0.size : Int) ≥ (a1.size : Int) then (if 0 ≤ (a1.size : Int) then (if (a1.size : Int) ≤ (a0.size : Int) then (some ((a0.extract 0 ((a1.size : Int) : Int).toNat).toList == a1.toList)) else (none)) else (none)) else (some false)) = some r := h
  clear h
  by_cases c3 : (a0.size : Int) ≥ (a1.size : Int)
  · rw [if_pos c3] at H
    have c3b0 : decide ((a1.size : Int) ≤ (a0.size : Int)) = true := decide_eq_true c3
    have c3b1 : decide (a1.size ≤ a0.size) = true := decide_eq_true (Int.ofNat_le.mp c3)
    clear c3
    by_cases c4 : 0 ≤ (a1.size : Int)
    · rw [if_pos c4] at H
      have c4b0 := eq_true c4
      have c4b1 : decide (0 ≤ (a1.size : Int)) = true := decide_eq_true c4
      clear c4
      by_cases c5 : (a1.size : Int) ≤ (a0.size : Int)
      · rw [if_pos c5] at H
        have c5b0 := eq_true c5
        have c5b1 : decide ((a1.size : Int) ≤ (a0.size : Int)) = true := decide_eq_true c5
        clear c5
        obtain rfl := Option.some.inj H
        go_enter Try.func56, Try.ntmps56
        go_wp2
        go_ret
        exact ⟨by first | rfl | (simp; done) | (simp [*]; done), by repeat (first | exact Drawn0.refl _ | apply Drawn0.step)⟩
      · rw [if_neg c5] at H
        exact absurd H (by simp)
    · rw [if_neg c4] at H
      exact absurd H (by simp)
  · rw [if_neg c3] at H
    have c3b0 : decide ((a1.size : Int) ≤ (a0.size : Int)) = false := decide_eq_false c3
    have c3b1 : decide (a1.size ≤ a0.size) = false := decide_eq_false (fun h => c3 (Int.ofNat_le.mpr h))
    clear c3
    obtain rfl := Option.some.inj H
    go_enter Try.func56, Try.ntmps56
    go_wp2
    go_ret
    exact ⟨by first | rfl | (simp; done) | (simp [*]; done), by repeat (first | exact Drawn0.refl _ | apply Drawn0.step)⟩

/-! ### stringslite_CutPrefix: function 47 -/
def stringslite_CutPrefix.f (a0 : ByteArray) (a1 : ByteArray) : Option (ByteArray × Bool) := (stringslite_HasPrefix.f a0 a1).bind fun t101 => (if t101 = true then (if 0 ≤ (a1.size : Int) then (if (a1.size : Int) ≤ (a0.size : Int) then (some (a0.extract ((a1.size : Int) : Int).toNat a0.size, true)) else (none)) else (none)) else (some (a0, false)))
set_option maxHeartbeats 8000000 in
set_option maxRecDepth 100000 in
theorem stringslite_CutPrefix.calls (a0 : ByteArray) (a1 : ByteArray) (r1 : ByteArray) (r2 : Bool) (w : World) (h : stringslite_CutPrefix.f a0 a1 = some (r1, r2)) :
    Calls Try.prog 47 #[.string a0, .string a1] w fun e w' => e = .returned (.tuple #[.string r1, .bool r2]) ∧ Drawn0 w w' := by
  have H : ((stringslite_HasPrefix.f a0 a1).bind fun t101 => (if t101 = true then (if 0 ≤ (a1.size : Int) then (if (a1.size : Int) ≤ (a0.size : Int) then (some (a0.extract ((a1.size : Int) : Int).toNat a0.size, true)) else (none)) else (none)) else (some (a0, false)))) = some (r1, r2) := h
  clear h
  replace H := Option.bind_eq_some_iff.mp H
  obtain ⟨t101, A30, H⟩ := H
  replace H : (if t101 = true then (if 0 ≤ (a1.size : Int) then (if (a1.size : Int) ≤ (a0.size : Int) then (some (a0.extract ((a1.size : Int) : Int).toNat a0.size, true)) else (none)) else (none)) else (some (a0, false))) = some (r1, r2) := H
  have A3 := Aside0.mk A30
  clear A30
  by_cases c4 : t101 = true
  · subst c4
    have H1 : (if 0 ≤ (a1.size : Int) then (if (a1.size : Int) ≤ (a0.size : Int) then (some (a0.extract ((a1.size : Int) : Int).toNat a0.size, true)) else (none)) else (none)) = some (r1, r2) := by rw [if_pos rfl] at H; exact H
    clear H
    have H := H1
    clear H1
    by_cases c5 : 0 ≤ (a1.size : Int)
    · rw [if_pos c5] at H
      have c5b0 := eq_true c5
      have c5b1 : decide (0 ≤ (a1.size : Int)) = true := decide_eq_true c5
      clear c5
      by_cases c6 : (a1.size : Int) ≤ (a0.size : Int)
      · rw [if_pos c6] at H
        have c6b0 := eq_true c6
        have c6b1 : decide ((a1.size : Int) ≤ (a0.size : Int)) = true := decide_eq_true c6
        clear c6
        simp only [Option.some.injEq, Prod.mk.injEq] at H
        obtain ⟨rfl, rfl⟩ := H
        go_enter Try.func47, Try.ntmps47
        go_wp2_with (first | ((with_reducible refine gate_callee (f := 56) rfl ?_); refine goesL_ (some 8) rfl rfl Try.func56 (by kernel_rfl) rfl #[.string a0, .string a1] rfl (by (try simp only [List.map_toArray, List.map_cons, List.map_nil]); first | done | rfl | (simp only [List.length_drop, List.length_take]; rfl)) ?_; (with_reducible refine (stringslite_HasPrefix.calls a0 a1 true _ A3.out).mono ?_); rintro e w' ⟨rfl, ⟨nd, rfl⟩⟩; refine ⟨_, rfl, ?_⟩))
        go_ret2
        exact ⟨by first | rfl | (simp; done) | (simp [*]; done), by repeat (first | exact Drawn0.refl _ | apply Drawn0.step)⟩
      · rw [if_neg c6] at H
        exact absurd H (by simp)
    · rw [if_neg c5] at H
      exact absurd H (by simp)
  · replace c4 := Bool.eq_false_iff.mpr c4
    subst c4
    have H1 : (some (a0, false)) = some (r1, r2) := by rw [if_neg (show ¬ (false = true) by decide)] at H; exact H
    clear H
    have H := H1
    clear H1
    simp only [Option.some.injEq, Prod.mk.injEq] at H
    obtain ⟨rfl, rfl⟩ := H
    go_enter Try.func47, Try.ntmps47
    go_wp2_with (first | ((with_reducible refine gate_callee (f := 56) rfl ?_); refine goesL_ (some 8) rfl rfl Try.func56 (by kernel_rfl) rfl #[.string a0, .string a1] rfl (by (try simp only [List.map_toArray, List.map_cons, List.map_nil]); first | done | rfl | (simp only [List.length_drop, List.length_take]; rfl)) ?_; (with_reducible refine (stringslite_HasPrefix.calls a0 a1 false _ A3.out).mono ?_); rintro e w' ⟨rfl, ⟨nd, rfl⟩⟩; refine ⟨_, rfl, ?_⟩))
    go_ret2
    exact ⟨by first | rfl | (simp; done) | (simp [*]; done), by repeat (first | exact Drawn0.refl _ | apply Drawn0.step)⟩

/-! ### strings_CutPrefix: function 36 -/
def strings_CutPrefix.f (a0 : ByteArray) (a1 : ByteArray) : Option (ByteArray × Bool) := (stringslite_CutPrefix.f a0 a1).bind fun bt102 => (some (bt102.1, bt102.2))
set_option maxHeartbeats 8000000 in
set_option maxRecDepth 100000 in
theorem strings_CutPrefix.calls (a0 : ByteArray) (a1 : ByteArray) (r1 : ByteArray) (r2 : Bool) (w : World) (h : strings_CutPrefix.f a0 a1 = some (r1, r2)) :
    Calls Try.prog 36 #[.string a0, .string a1] w fun e w' => e = .returned (.tuple #[.string r1, .bool r2]) ∧ Drawn0 w w' := by
  have H : ((stringslite_CutPrefix.f a0 a1).bind fun bt102 => (some (bt102.1, bt102.2))) = some (r1, r2) := h
  clear h
  replace H := Option.bind_eq_some_iff.mp H
  obtain ⟨⟨t102, t103⟩, A30, H⟩ := H
  replace H : (some (t102, t103)) = some (r1, r2) := H
  have A3 := Aside0.mk A30
  clear A30
  simp only [Option.some.injEq, Prod.mk.injEq] at H
  obtain ⟨rfl, rfl⟩ := H
  go_enter Try.func36, Try.ntmps36
  go_wp2_with (first | ((with_reducible refine gate_callee (f := 47) rfl ?_); refine goesL_ (some 8) rfl rfl Try.func47 (by kernel_rfl) rfl #[.string a0, .string a1] rfl (by (try simp only [List.map_toArray, List.map_cons, List.map_nil]); first | done | rfl | (simp only [List.length_drop, List.length_take]; rfl)) ?_; (with_reducible refine (stringslite_CutPrefix.calls a0 a1 t102 t103 _ A3.out).mono ?_); rintro e w' ⟨rfl, ⟨nd, rfl⟩⟩; refine ⟨_, rfl, ?_⟩))
  go_ret2
  exact ⟨by first | rfl | (simp; done) | (simp [*]; done), by repeat (first | exact Drawn0.refl _ | apply Drawn0.step)⟩

/-! ### label_Ref: function 34 (given by hand) -/
/-- May a rune stand in a ref's name? -/
def label_Ref.ok (r : Int) : Bool := !((r < 97 || 122 < r) && (r < 48 || 57 < r) && r != 45 && r != 95)
/-- Are the runes from place pos on such as may stand in a ref's name? -/
def label_Ref.go (s : ByteArray) : Nat → Nat → Bool
  | 0, _ => true
  | n + 1, pos => if pos < s.size then (if label_Ref.ok ((Utf8.decode s pos).1 : Int) = false then false else label_Ref.go s n (pos + (Utf8.decode s pos).2)) else true
/-- What stands behind heads/ or tags/ -/
def label_Ref.tail (a0 : ByteArray) : Bool := if a0.toList = ([] : List UInt8) then false else (if (a0.size : Int) > 64 then false else label_Ref.go a0 a0.size 0)
def label_Ref.f (a0 : ByteArray) : Option (Bool) := (strings_CutPrefix.f a0 (⟨#[104, 101, 97, 100, 115, 47]⟩ : ByteArray)).bind fun x => if x.2 = true then some (label_Ref.tail x.1) else ((strings_CutPrefix.f a0 (⟨#[116, 97, 103, 115, 47]⟩ : ByteArray)).bind fun y => if y.2 = true then some (label_Ref.tail y.1) else some false)
theorem label_Ref.go_end (s : ByteArray) (n pos : Nat) (h : ¬ pos < s.size) : label_Ref.go s n pos = true := by
  cases n with
  | zero => rfl
  | succ n => simp [label_Ref.go, h]
theorem label_Ref.width_pos (s : ByteArray) (pos : Nat) (h : pos < s.size) : 1 ≤ (Utf8.decode s pos).2 := by
  by_cases ha : (s[pos]'h).toNat < 128
  · rw [decode_ascii s pos h ha]
    exact Nat.le_refl _
  · exact (decode_high s pos h (by omega)).2
theorem label_Ref.cut_some (a b : ByteArray) : ∃ r1 r2, strings_CutPrefix.f a b = some (r1, r2) := by
  unfold strings_CutPrefix.f stringslite_CutPrefix.f stringslite_HasPrefix.f
  by_cases h : (a.size : Int) ≥ (b.size : Int)
  · rw [if_pos h, if_pos (by omega), if_pos (by omega)]
    simp only [Option.bind_some]
    split
    · exact ⟨_, _, rfl⟩
    · exact ⟨_, _, rfl⟩
  · rw [if_neg h]
    exact ⟨_, _, rfl⟩
set_option maxHeartbeats 8000000 in
set_option maxRecDepth 1000000 in
theorem label_Ref.calls (a0 : ByteArray) (r : Bool) (w : World) (h : label_Ref.f a0 = some r) :
    Calls Try.prog 34 #[.string a0] w fun e w' => e = .returned (.bool r) ∧ Below w.heap.size w w' := by
  unfold label_Ref.f at h
  obtain ⟨⟨x1, x2⟩, hx, h⟩ := Option.bind_eq_some_iff.mp h
  have X := Aside0.mk hx
  have H := Aside0.mk h
  clear hx h
  go_enter Try.func34, Try.ntmps34
  go_upto_if 13 with (go_at_call 36; refine (strings_CutPrefix.calls _ _ x1 x2 _ X.out).mono ?_; rintro e w' ⟨rfl, ⟨nd, rfl⟩⟩)
  go_cut [3, 4] (fun v3 v4 wc => ∃ (x : ByteArray) (b : Bool), v3 = .string x ∧ v4 = .bool b ∧ Aside0 ((if b = true then label_Ref.tail x else false) = r) ∧ Drawn0 w wc)
  case first =>
    cases x2 with
    | true =>
      have H' := H.out
      rw [if_pos rfl] at H'
      have HT := Aside0.mk (show (if true = true then label_Ref.tail x1 else false) = r by rw [if_pos rfl]; exact Option.some.inj H')
      clear H' H
      go_wp2_with fail
      go_meet
      case rel => exact ⟨x1, true, rfl, rfl, HT, by repeat (first | exact Drawn0.refl _ | apply Drawn0.step)⟩
    | false =>
      have H' := H.out
      rw [if_neg (by simp)] at H'
      obtain ⟨⟨y1, y2⟩, hy, h⟩ := Option.bind_eq_some_iff.mp H'
      have Y := Aside0.mk hy
      have HT := Aside0.mk (show (if y2 = true then label_Ref.tail y1 else false) = r by
        cases y2
        · rw [if_neg (by simp)] at h ⊢
          exact Option.some.inj h
        · rw [if_pos rfl] at h ⊢
          exact Option.some.inj h)
      clear H' H hy h
      go_wp2_with (go_at_call 36; refine (strings_CutPrefix.calls _ _ y1 y2 _ Y.out).mono ?_; rintro e w' ⟨rfl, ⟨nd, rfl⟩⟩)
      go_meet
      case rel => exact ⟨y1, y2, rfl, rfl, HT, by repeat (first | exact Drawn0.refl _ | apply Drawn0.step)⟩
  case rest =>
    obtain ⟨x, b, rfl, rfl, HT, ⟨nc, rfl⟩⟩ := hcut
    clear H X
    cases b with
    | false =>
      have H' := HT.out
      rw [if_neg (by simp)] at H'
      subst H'
      clear HT
      go_wp2_with fail
      go_ret
      exact ⟨rfl, pw_below_drewN (Below.refl _ _) _⟩
    | true =>
      have h := HT.out
      rw [if_pos rfl] at h
      unfold label_Ref.tail at h
      clear HT
      by_cases c3 : x.toList = ([] : List UInt8)
      · rw [if_pos c3] at h
        subst h
        have c3b0 : (x.toList == ([] : List UInt8)) = true := beq_iff_eq.mpr c3
        clear c3
        go_wp2_with fail
        go_ret
        exact ⟨rfl, pw_below_drewN (Below.refl _ _) _⟩
      rw [if_neg c3] at h
      have c3b0 : (x.toList == ([] : List UInt8)) = false := beq_eq_false_iff_ne.mpr c3
      by_cases c4 : (x.size : Int) > 64
      · rw [if_pos c4] at h
        subst h
        have c4b0 : decide (64 < (x.size : Int)) = true := decide_eq_true c4
        have c4b1 : decide (64 < x.size) = true := decide_eq_true (by omega)
        clear c3 c4
        go_wp2_with fail
        go_ret
        exact ⟨rfl, pw_below_drewN (Below.refl _ _) _⟩
      rw [if_neg c4] at h
      have hs : x.size ≤ 64 := by omega
      have c4b0 : decide (64 < (x.size : Int)) = false := decide_eq_false c4
      have c4b1 : decide (64 < x.size) = false := decide_eq_false (by omega)
      have H := Aside0.mk h
      clear c3 c4 h
      go_wp2_with fail
      clear c3b0 c4b0 c4b1
      go_loopw [] (fun wr => ∃ (pos fuel : Nat), wr.heap[w.heap.size]? = some (.stringIter x pos) ∧ Below w.heap.size w wr ∧ Aside0 (label_Ref.go x fuel pos = r) ∧ pos ≤ x.size + 4 ∧ x.size ≤ pos + fuel) (fun wr => x.size - wr.iterPos w.heap.size)
      case atStart =>
        exact ⟨0, x.size, World.iter_heap w x 0, pw_below_drewN ((Below.refl _ w).alloc (Nat.le_refl _) _) _, H, by omega, by omega⟩
      case round =>
        obtain ⟨pos, fuel, hit, hbw, HG, hp4, hfu⟩ := hrel
        clear H
        by_cases hp : pos < x.size
        · have hnx : ∀ ty, (Instr.next (.pointer (some ⟨w.heap.size, 0, none⟩)) true ty).run Try.prog wr = _ := fun ty => Lib.run_next_any_at wr w.heap.size x pos ty hit hp
          have hwd := label_Ref.width_pos x pos hp
          have hw4 : (Utf8.decode x pos).2 ≤ 4 := by
            simp only [Utf8.decode]
            repeat' split
            all_goals simp
          have hit2 := Lib.iterAt_heap wr w.heap.size x pos (pos + (Utf8.decode x pos).2) hit
          have hbw2 := Lib.below_iterAt hbw (k := w.heap.size) (Nat.le_refl _) x (pos + (Utf8.decode x pos).2)
          obtain ⟨f, rfl⟩ : ∃ f, fuel = f + 1 := ⟨fuel - 1, by omega⟩
          have HG' := HG.out
          simp only [label_Ref.go, if_pos hp] at HG'
          clear HG
          have hiff : label_Ref.ok ((Utf8.decode x pos).1 : Int) = false ↔ ((((Utf8.decode x pos).1 : Int) < 97 ∨ 122 < ((Utf8.decode x pos).1 : Int)) ∧ (((Utf8.decode x pos).1 : Int) < 48 ∨ 57 < ((Utf8.decode x pos).1 : Int)) ∧ ((Utf8.decode x pos).1 : Int) ≠ 45 ∧ ((Utf8.decode x pos).1 : Int) ≠ 95) := by
            simp [label_Ref.ok, and_assoc]
            omega
          generalize hq : label_Ref.ok ((Utf8.decode x pos).1 : Int) = q at HG' hiff
          clear hq
          cases q with
          | false =>
            rw [if_pos rfl] at HG'
            subst HG'
            obtain ⟨h1, h2, h3, h4⟩ := hiff.mp rfl
            clear hiff
            generalize ((Utf8.decode x pos).1 : Int) = v at *
            have e3 : (v != 45) = true := bne_iff_ne.mpr h3
            have e4 : (v != 95) = true := bne_iff_ne.mpr h4
            clear h3 h4
            rcases h1 with h1 | h1
            all_goals rcases h2 with h2 | h2
            all_goals (try (exfalso; omega))
            all_goals go_wp2_with fail
            all_goals go_ret
            all_goals exact ⟨rfl, hbw2⟩
          | true =>
            rw [if_neg (by simp)] at HG'
            have HG := Aside0.mk HG'
            clear HG'
            have hno : ¬ _ := fun hh => absurd (hiff.mpr hh) (by simp)
            clear hiff
            have hv : (97 ≤ ((Utf8.decode x pos).1 : Int) ∧ ((Utf8.decode x pos).1 : Int) ≤ 122) ∨ (48 ≤ ((Utf8.decode x pos).1 : Int) ∧ ((Utf8.decode x pos).1 : Int) ≤ 57) ∨ ((Utf8.decode x pos).1 : Int) = 45 ∨ ((Utf8.decode x pos).1 : Int) = 95 := by omega
            clear hno
            generalize ((Utf8.decode x pos).1 : Int) = v at *
            rcases hv with ⟨h1, h2⟩ | ⟨h1, h2⟩ | rfl | rfl
            all_goals go_wp2_with fail
            all_goals go_roundw
            all_goals first | exact ⟨pos + (Utf8.decode x pos).2, f, hit2, hbw2, HG, by omega, by omega⟩ | (simp only [World.iterPos, hit, hit2]; omega)
        · have hnx : ∀ ty, (Instr.next (.pointer (some ⟨w.heap.size, 0, none⟩)) true ty).run Try.prog wr = _ := fun ty => Lib.run_next_end_at wr w.heap.size x pos ty hit hp
          have HG' := HG.out
          rw [label_Ref.go_end x fuel pos hp] at HG'
          subst HG'
          go_wp2_with fail
          go_ret
          exact ⟨rfl, hbw⟩


/-! ### strings_HasPrefix: function 45 -/
def strings_HasPrefix.f (a0 : ByteArray) (a1 : ByteArray) : Option (Bool) := (stringslite_HasPrefix.f a0 a1).bind fun t104 => (some t104)
set_option maxHeartbeats 8000000 in
set_option maxRecDepth 100000 in
theorem strings_HasPrefix.calls (a0 : ByteArray) (a1 : ByteArray) (r : Bool) (w : World) (h : strings_HasPrefix.f a0 a1 = some r) :
    Calls Try.prog 45 #[.string a0, .string a1] w fun e w' => e = .returned (.bool r) ∧ Drawn0 w w' := by
  have H : ((stringslite_HasPrefix.f a0 a1).bind fun t104 => (some t104)) = some r := h
  clear h
  replace H := Option.bind_eq_some_iff.mp H
  obtain ⟨t104, A30, H⟩ := H
  replace H : (some t104) = some r := H
  have A3 := Aside0.mk A30
  clear A30
  obtain rfl := Option.some.inj H
  go_enter Try.func45, Try.ntmps45
  go_wp2_with (first | ((with_reducible refine gate_callee (f := 56) rfl ?_); refine goesL_ (some 7) rfl rfl Try.func56 (by kernel_rfl) rfl #[.string a0, .string a1] rfl (by (try simp only [List.map_toArray, List.map_cons, List.map_nil]); first | done | rfl | (simp only [List.length_drop, List.length_take]; rfl)) ?_; (with_reducible refine (stringslite_HasPrefix.calls a0 a1 t104 _ A3.out).mono ?_); rintro e w' ⟨rfl, ⟨nd, rfl⟩⟩; refine ⟨_, rfl, ?_⟩))
  go_ret
  exact ⟨by first | rfl | (simp; done) | (simp [*]; done), by repeat (first | exact Drawn0.refl _ | apply Drawn0.step)⟩

/-! ### label_Head: function 33 -/
def label_Head.f (a0 : ByteArray) : Option (Bool) := (label_Ref.f a0).bind fun t105 => (if t105 = true then ((strings_HasPrefix.f a0 (⟨#[104, 101, 97, 100, 115, 47]⟩ : ByteArray)).bind fun t106 => (some t106)) else (some false))
set_option maxHeartbeats 8000000 in
set_option maxRecDepth 100000 in
theorem label_Head.calls (a0 : ByteArray) (r : Bool) (w : World) (h : label_Head.f a0 = some r) :
    Calls Try.prog 33 #[.string a0] w fun e w' => e = .returned (.bool r) ∧ Below w.heap.size w w' := by
  have HB := Aside0.mk (Below.refl w.heap.size w)
  have H : ((label_Ref.f a0).bind fun t105 => (if t105 = true then ((strings_HasPrefix.f a0 (⟨#[104, 101, 97, 100, 115, 47]⟩ : ByteArray)).bind fun t106 => (some t106)) else (some false))) = some r := h
  clear h
  replace H := Option.bind_eq_some_iff.mp H
  obtain ⟨t105, A20, H⟩ := H
  replace H : (if t105 = true then ((strings_HasPrefix.f a0 (⟨#[104, 101, 97, 100, 115, 47]⟩ : ByteArray)).bind fun t106 => (some t106)) else (some false)) = some r := H
  have A2 := Aside0.mk A20
  clear A20
  by_cases c3 : t105 = true
  · subst c3
    have H1 : ((strings_HasPrefix.f a0 (⟨#[104, 101, 97, 100, 115, 47]⟩ : ByteArray)).bind fun t106 => (some t106)) = some r := by rw [if_pos rfl] at H; exact H
    clear H
    have H := H1
    clear H1
    replace H := Option.bind_eq_some_iff.mp H
    obtain ⟨t106, A40, H⟩ := H
    replace H : (some t106) = some r := H
    have A4 := Aside0.mk A40
    clear A40
    obtain rfl := Option.some.inj H
    go_enter Try.func33, Try.ntmps33
    go_wp2_with (first | ((with_reducible refine gate_callee (f := 34) rfl ?_); refine goesL_ (some 4) rfl rfl Try.func34 (by kernel_rfl) rfl #[.string a0] rfl (by (try simp only [List.map_toArray, List.map_cons, List.map_nil]); first | done | rfl | (simp only [List.length_drop, List.length_take]; rfl)) ?_; (with_reducible refine (label_Ref.calls a0 true _ A2.out).mono ?_); rintro e w5 ⟨rfl, hb⟩; refine ⟨_, rfl, ?_⟩; have n0_ := Aside0.mk (below_step (by repeat (first | (with_reducible first | exact HB.out | apply below_alloc | apply pw_below_drewN | apply below_drew1) | exact HB.out)) hb); clear HB; have HB := n0_; clear n0_; (try clear hb); (try clear hb2); (try clear hk); (try clear hi)) | (go_at_call 45; (with_reducible refine (strings_HasPrefix.calls a0 (⟨#[104, 101, 97, 100, 115, 47]⟩ : ByteArray) t106 _ A4.out).mono ?_); rintro e w' ⟨rfl, ⟨nd, rfl⟩⟩))
    go_ret
    exact ⟨by first | rfl | (simp [errW_none, errW_some] <;> rfl) | (simp [*, errW_none, errW_some] <;> rfl), by repeat (first | (with_reducible first | exact HB.out | apply below_alloc | apply pw_below_drewN | apply below_drew1) | exact HB.out)⟩
  · replace c3 := Bool.eq_false_iff.mpr c3
    subst c3
    have H1 : (some false) = some r := by rw [if_neg (show ¬ (false = true) by decide)] at H; exact H
    clear H
    have H := H1
    clear H1
    obtain rfl := Option.some.inj H
    go_enter Try.func33, Try.ntmps33
    go_wp2_with (first | ((with_reducible refine gate_callee (f := 34) rfl ?_); refine goesL_ (some 4) rfl rfl Try.func34 (by kernel_rfl) rfl #[.string a0] rfl (by (try simp only [List.map_toArray, List.map_cons, List.map_nil]); first | done | rfl | (simp only [List.length_drop, List.length_take]; rfl)) ?_; (with_reducible refine (label_Ref.calls a0 false _ A2.out).mono ?_); rintro e w6 ⟨rfl, hb⟩; refine ⟨_, rfl, ?_⟩; have n0_ := Aside0.mk (below_step (by repeat (first | (with_reducible first | exact HB.out | apply below_alloc | apply pw_below_drewN | apply below_drew1) | exact HB.out)) hb); clear HB; have HB := n0_; clear n0_; (try clear hb); (try clear hb2); (try clear hk); (try clear hi)))
    go_ret
    exact ⟨by first | rfl | (simp [errW_none, errW_some] <;> rfl) | (simp [*, errW_none, errW_some] <;> rfl), by repeat (first | (with_reducible first | exact HB.out | apply below_alloc | apply pw_below_drewN | apply below_drew1) | exact HB.out)⟩

end Go.Proofs.Ytgepbdkbleapaaa.M
