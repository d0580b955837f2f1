/- The program's functions as plain functions, and that each call comes to what these tell; written by a program of this session, some contracts by hand. Conditions: none. -/
import Derived.Test.YtnapcfpecpgdbaaDoorMx0
import Derived.Test.YtnapcfpecpgdbaaDoorMx5
namespace Go.Proofs.YtnapcfpecpgdbaaDoor.M
open Go.RowKit Go.Proofs.YtnapcfpecpgdbaaDoorW.PrintWords Go.Proofs.YtnapcfpecpgdbaaDoorW.PrintLast Go.Proofs.YtnapcfpecpgdbaaDoorW.PrintMore
attribute [local go_sem] max2_int min2_int max_two min_two max_three min_three max_four min_four   -- for this text's walks alone
set_option linter.unusedVariables false
set_option linter.unusedSimpArgs false

/-! ### r7_index: function 43 -/
def r7_index.l0 : Nat → ByteArray → Int → Int → Option (Int)
 | 0, _, _, _ => none
 | k + 1, x0, x1, x5 => if x5 < (x0.size : Int) then (if 0 ≤ x5 then (if (bt x0 x5) = x1 then (some x5) else (r7_index.l0 k x0 x1 (wrap64 (x5 + 1)))) else (none)) else (some (-1))
def r7_index.f (k : Nat) (a0 : ByteArray) (a1 : Int) : Option (Int) := r7_index.l0 k a0 a1 0
theorem r7_index.mono_l : ∀ k, (∀ y0 y1 y2, LeO (r7_index.l0 k y0 y1 y2) (r7_index.l0 (k + 1) y0 y1 y2))
 | 0 => fun _ _ _ r h => by simp [r7_index.l0] at h
 | k + 1 => by
  have ih0 := r7_index.mono_l k
  · intro y0 y1 y2
    unfold r7_index.l0
    repeat' with_reducible first | exact ih0 _ _ _ | exact LeO.refl _ | exact LeO.none _ | refine LeO.ite ?_ ?_ | refine LeO.bind ?_ (fun _ => ?_)
theorem r7_index.mono : ∀ a0 a1 k, LeO (r7_index.f k a0 a1) (r7_index.f (k + 1) a0 a1) := by
 intro a0 a1 k
 have ih0 := r7_index.mono_l k
 unfold r7_index.f
 repeat' with_reducible first | exact ih0 _ _ _ | exact LeO.refl _ | exact LeO.none _ | refine LeO.ite ?_ ?_ | refine LeO.bind ?_ (fun _ => ?_)
set_option maxHeartbeats 8000000 in
set_option maxRecDepth 100000 in
theorem r7_index.calls (k : Nat) (a0 : ByteArray) (a1 : Int) (r : Int) (w : World) (h : r7_index.f k a0 a1 = some r) :
 Calls Tryd.prog 43 #[.string a0, .int .u8 a1] w fun e w' => e = .returned (.int .i64 r) ∧ Drawn0 w w' := by
 have H : (r7_index.l0 k a0 a1 0) = some r := h
 clear h
 have H' := Aside0.mk H
 clear H
 go_enter Tryd.func43, Tryd.ntmps43
 go_wp2
 go_loopg [5] k (fun kq v5 w' => ∃ (x5_1 : Int), v5 = .int .i64 x5_1 ∧ Aside0 (r7_index.l0 kq a0 a1 x5_1 = some r) ∧ Aside0 (kq ≤ k) ∧ Drawn0 w w')
 case atStart => exact ⟨(0), ez_, H', ⟨Nat.le_refl _⟩, dz_⟩
 case round =>
  clear H'
  try clear p2
  obtain ⟨x5_1, rfl, HA, HK1, ⟨m1, rfl⟩⟩ := hrel
  cases gk with
  | zero => exact absurd HA.out (by simp [r7_index.l0])
  | succ k1 =>
   have H := HA.out
   clear HA
   simp only [r7_index.l0] at H
   by_cases c3 : x5_1 < (a0.size : Int)
   ·
    rw [if_pos c3] at H
    have c3b0 : decide (x5_1 < (a0.size : Int)) = true := decide_eq_true c3
    clear c3
    by_cases c4 : 0 ≤ x5_1
    ·
     rw [if_pos c4] at H
     have c4b0 : decide (0 ≤ x5_1) = true := decide_eq_true c4
     clear c4
     by_cases c6 : (bt a0 x5_1) = a1
     · rw [if_pos c6] at H
       have c6b0 : ((bt a0 x5_1) == a1) = true := beq_iff_eq.mpr c6
       have c6b1 : ((bt a0 x5_1) != a1) = false := bne_eq_false_iff_eq.mpr c6
       clear c6
       obtain rfl := Option.some.inj H
       have p5 : 0 ≤ (x5_1 : Int) := of_decide_eq_true az_
       have q5 : x5_1 < (a0.size : Int) := of_decide_eq_true az_
       have hx5 := bt_at a0 x5_1
       replace p5 := eq_true p5
       replace q5 := eq_true q5
       go_wp2
       go_ret
       exact ⟨ez_, dz_⟩
     ·
      rw [if_neg c6] at H
      have c6b0 : ((bt a0 x5_1) == a1) = false := beq_eq_false_iff_ne.mpr c6
      have c6b1 : ((bt a0 x5_1) != a1) = true := bne_iff_ne.mpr c6
      have H' := Aside0.mk H
      clear H
      have p5 : 0 ≤ (x5_1 : Int) := of_decide_eq_true az_
      have q5 : x5_1 < (a0.size : Int) := of_decide_eq_true az_
      have hx5 := bt_at a0 x5_1
      replace p5 := eq_true p5
      replace q5 := eq_true q5
      go_wp2
      go_roundg k1
      case measure => have := HK1.out; omega
      case rel => exact ⟨(wrap64 (x5_1 + 1)), ez_, H', ⟨by have := HK1.out; omega⟩, dz_⟩
    · rw [if_neg c4] at H
      exact absurd H (by simp)
   · rw [if_neg c3] at H
     have c3b0 : decide (x5_1 < (a0.size : Int)) = false := decide_eq_false c3
     clear c3
     obtain rfl := Option.some.inj H
     go_wp2
     go_ret
     exact ⟨ez_, dz_⟩

/-! ### r7_kind: function 44 -/
def r7_kind.f (a0 : Int) : Option (ByteArray) := (some (([(⟨#[]⟩ : ByteArray), (⟨#[98, 108, 111, 98]⟩ : ByteArray), (⟨#[116, 114, 101, 101]⟩ : ByteArray), (⟨#[99, 111, 109, 109, 105, 116]⟩ : ByteArray), (⟨#[116, 97, 103]⟩ : ByteArray)] : List ByteArray) : List ByteArray)).bind fun y124 => (if 0 ≤ a0 then (if a0 < (y124.length : Int) then (some (rdOf ByteArray.empty y124 a0)) else (none)) else (none))
set_option maxHeartbeats 8000000 in
set_option maxRecDepth 100000 in
theorem r7_kind.calls (a0 : Int) (r : ByteArray) (w : World) (h : r7_kind.f a0 = some r) :
 Calls Tryd.prog 44 #[.int .i64 a0] w fun e w' => e = .returned (.string r) ∧ Below w.heap.size w w' := by
 have HB := Aside0.mk (Below.refl w.heap.size w)
 have H : ((some (([(⟨#[]⟩ : ByteArray), (⟨#[98, 108, 111, 98]⟩ : ByteArray), (⟨#[116, 114, 101, 101]⟩ : ByteArray), (⟨#[99, 111, 109, 109, 105, 116]⟩ : ByteArray), (⟨#[116, 97, 103]⟩ : ByteArray)] : List ByteArray) : List ByteArray)).bind fun y124 => (if 0 ≤ a0 then (if a0 < (y124.length : Int) then (some (rdOf ByteArray.empty y124 a0)) else (none)) else (none))) = some r := h
 clear h
 obtain ⟨y124, hy124⟩ : ∃ y_ : List ByteArray, y_ = (([(⟨#[]⟩ : ByteArray), (⟨#[98, 108, 111, 98]⟩ : ByteArray), (⟨#[116, 114, 101, 101]⟩ : ByteArray), (⟨#[99, 111, 109, 109, 105, 116]⟩ : ByteArray), (⟨#[116, 97, 103]⟩ : ByteArray)] : List ByteArray)) := ⟨_, rfl⟩
 replace H : (if 0 ≤ a0 then (if a0 < (y124.length : Int) then (some (rdOf ByteArray.empty y124 a0)) else (none)) else (none)) = some r := by first | (rw [hy124]; with_reducible exact H) | (have H2_ := (Option.bind_some _ _).symm.trans H; rw [hy124]; with_reducible exact H2_) | (have H2_ := (Option.bind_some _ _).symm.trans H; with_reducible exact H2_) | with_reducible exact H | (rw [hy124]; exact H) | exact H
 have Ny124 := Aside0.mk hy124
 clear hy124
 by_cases c2 : 0 ≤ a0
 ·
  rw [if_pos c2] at H
  have c2b0 : decide (0 ≤ a0) = true := decide_eq_true c2
  clear c2
  by_cases c3 : a0 < (y124.length : Int)
  · rw [if_pos c3] at H
    have c3b0 : decide (a0 < (y124.length : Int)) = true := decide_eq_true c3
    clear c3
    obtain rfl := Option.some.inj H
    go_enter Tryd.func44, Tryd.ntmps44
    go_wp2_with (first | ((with_reducible refine gate_dst (N := 3) rfl ?_); refine Kd.R_lit Kd.string _ 9 ?hg (N := 3) ?hd (xs := ([(⟨#[]⟩ : ByteArray), (⟨#[98, 108, 111, 98]⟩ : ByteArray), (⟨#[116, 114, 101, 101]⟩ : ByteArray), (⟨#[99, 111, 109, 109, 105, 116]⟩ : ByteArray), (⟨#[116, 97, 103]⟩ : ByteArray)] : List ByteArray)) (inner := [.string (⟨#[]⟩ : ByteArray), .string (⟨#[98, 108, 111, 98]⟩ : ByteArray), .string (⟨#[116, 114, 101, 101]⟩ : ByteArray), .string (⟨#[99, 111, 109, 109, 105, 116]⟩ : ByteArray), .string (⟨#[116, 97, 103]⟩ : ByteArray)]) (ok := fun _ => True) (okp := fun _ => True) ?hr ?hp (fun _ hk => hk) trivial (Below.refl _ _) (Nat.le_refl _) (by simp) ?_; (case hd => rfl); (case hg => rfl); (case hr => first | (go_simp; done) | (go_simp; rfl)); (case hp => exact (Reps.one (show Kd.M Kd.string _ _ _ (⟨#[]⟩ : ByteArray) [.string (⟨#[]⟩ : ByteArray)] from rfl) (Reps.one (show Kd.M Kd.string _ _ _ (⟨#[98, 108, 111, 98]⟩ : ByteArray) [.string (⟨#[98, 108, 111, 98]⟩ : ByteArray)] from rfl) (Reps.one (show Kd.M Kd.string _ _ _ (⟨#[116, 114, 101, 101]⟩ : ByteArray) [.string (⟨#[116, 114, 101, 101]⟩ : ByteArray)] from rfl) (Reps.one (show Kd.M Kd.string _ _ _ (⟨#[99, 111, 109, 109, 105, 116]⟩ : ByteArray) [.string (⟨#[99, 111, 109, 109, 105, 116]⟩ : ByteArray)] from rfl) (Reps.one (show Kd.M Kd.string _ _ _ (⟨#[116, 97, 103]⟩ : ByteArray) [.string (⟨#[116, 97, 103]⟩ : ByteArray)] from rfl) (Reps.none _ _))))))); intro v125 w4 ho5 hb hg_ hnew_; clear hg_ hnew_; (first | rw [← Ny124.out] at ho5 | (simp only [Int.reduceToNat] at ho5; rw [← Ny124.out] at ho5)); have n0_ := Aside0.mk (Kd.R_lower ho5 (below_size bz_)); have n1_ := Aside0.mk (below_step bz_ hb); clear HB; have HO126 := n0_; have HB := n1_; clear n0_ n1_; clear hb ho5; obtain ⟨Ao6, co6, eo6⟩ := Kd.R_slice HO126.out; subst eo6; have p127 : 0 ≤ (a0 : Int) := of_decide_eq_true az_; have q127 : a0 < (y124.length : Int) := of_decide_eq_true az_; obtain ⟨ad127, e127, hx127_0⟩ := Kd.at_string (Kd.R_reads' HO126.out).2.2 a0 p127 q127; cases e127; replace p127 := eq_true p127; replace q127 := eq_true q127))
    go_ret
    exact ⟨xz_, bz_⟩
  · rw [if_neg c3] at H
    exact absurd H (by simp)
 · rw [if_neg c2] at H
   exact absurd H (by simp)

/-! ### r7_Open: function 17 -/
def r7_Open.l0 : Nat → ByteArray → Int → Int → Int → Int → Option (Int × ByteArray × Int)
 | 0, _, _, _, _, _ => none
 | k + 1, x0, x5, x6, x7, x8 => if x8 < 5 then ((r7_kind.f x8).bind fun t130 => (if 0 ≤ x6 then (if x6 ≤ (x0.size : Int) then (if t130.toList = (x0.extract 0 (x6 : Int).toNat).toList then (r7_Open.l0 k x0 x5 x6 x8 (wrap64 (x8 + 1))) else (r7_Open.l0 k x0 x5 x6 x7 (wrap64 (x8 + 1)))) else (none)) else (none))) else (if x7 = 0 then (some (0, (⟨#[]⟩ : ByteArray), 70)) else (if 0 ≤ (wrap64 (x6 + 1)) then (if (wrap64 (x6 + 1)) ≤ x5 then (if x5 ≤ (x0.size : Int) then ((r2_Undec.f k (x0.extract ((wrap64 (x6 + 1)) : Int).toNat (x5 : Int).toNat)).bind fun bt131 => (if 0 ≤ (wrap64 (x5 + 1)) then (if (wrap64 (x5 + 1)) ≤ (x0.size : Int) then (if bt131.2 = 0 then (if bt131.1 > 262144 then (some (0, (⟨#[]⟩ : ByteArray), 3)) else (if (wrap64 (bt131.1)) > ((x0.extract ((wrap64 (x5 + 1)) : Int).toNat x0.size).size : Int) then (some (0, (⟨#[]⟩ : ByteArray), 4)) else (if (wrap64 (bt131.1)) < ((x0.extract ((wrap64 (x5 + 1)) : Int).toNat x0.size).size : Int) then (some (0, (⟨#[]⟩ : ByteArray), 5)) else (some (x7, x0.extract ((wrap64 (x5 + 1)) : Int).toNat x0.size, 0))))) else (some (0, (⟨#[]⟩ : ByteArray), bt131.2))) else (none)) else (none))) else (none)) else (none)) else (none)))
def r7_Open.f (k : Nat) (a0 : ByteArray) : Option (Int × ByteArray × Int) := (r7_index.f k a0 0).bind fun t128 => (if t128 < 0 then (some (0, (⟨#[]⟩ : ByteArray), 6)) else (if 0 ≤ t128 then (if t128 ≤ (a0.size : Int) then ((r7_index.f k (a0.extract 0 (t128 : Int).toNat) 32).bind fun t129 => (if t129 < 0 then (some (0, (⟨#[]⟩ : ByteArray), 6)) else (r7_Open.l0 k a0 t128 t129 0 1))) else (none)) else (none)))
theorem r7_Open.mono_l : ∀ k, (∀ y0 y1 y2 y3 y4, LeO (r7_Open.l0 k y0 y1 y2 y3 y4) (r7_Open.l0 (k + 1) y0 y1 y2 y3 y4))
 | 0 => fun _ _ _ _ _ r h => by simp [r7_Open.l0] at h
 | k + 1 => by
  have ih0 := r7_Open.mono_l k
  ·
   intro y0 y1 y2 y3 y4
   unfold r7_Open.l0
   repeat' with_reducible first | exact ih0 _ _ _ _ _ | exact r2_Undec.mono _ _ | exact r7_index.mono _ _ _ | exact LeO.refl _ | exact LeO.none _ | refine LeO.ite ?_ ?_ | refine LeO.bind ?_ (fun _ => ?_)
theorem r7_Open.mono : ∀ a0 k, LeO (r7_Open.f k a0) (r7_Open.f (k + 1) a0) := by
 intro a0 k
 have ih0 := r7_Open.mono_l k
 unfold r7_Open.f
 repeat' with_reducible first | exact ih0 _ _ _ _ _ | exact r2_Undec.mono _ _ | exact r7_index.mono _ _ _ | exact LeO.refl _ | exact LeO.none _ | refine LeO.ite ?_ ?_ | refine LeO.bind ?_ (fun _ => ?_)
set_option maxHeartbeats 8000000 in
set_option maxRecDepth 100000 in
theorem r7_Open.calls (k : Nat) (a0 : ByteArray) (r1 : Int) (r2 : ByteArray) (r3 : Int) (w : World) (h : r7_Open.f k a0 = some (r1, r2, r3)) :
 Calls Tryd.prog 17 #[.string a0] w fun e w' => e = .returned (.tuple #[.int .i64 r1, .string r2, .int .i64 r3]) ∧ Below w.heap.size w w' := by
 have HB := Aside0.mk (Below.refl w.heap.size w)
 have H : ((r7_index.f k a0 0).bind fun t128 => (if t128 < 0 then (some (0, (⟨#[]⟩ : ByteArray), 6)) else (if 0 ≤ t128 then (if t128 ≤ (a0.size : Int) then ((r7_index.f k (a0.extract 0 (t128 : Int).toNat) 32).bind fun t129 => (if t129 < 0 then (some (0, (⟨#[]⟩ : ByteArray), 6)) else (r7_Open.l0 k a0 t128 t129 0 1))) else (none)) else (none)))) = some (r1, r2, r3) := h
 clear h
 replace H := Option.bind_eq_some_iff.mp H
 obtain ⟨t128, A20, H⟩ := H
 try dsimp only at H
 have A2 := Aside0.mk A20
 clear A20
 by_cases c3 : t128 < 0
 · rw [if_pos c3] at H
   have c3b0 : decide (t128 < 0) = true := decide_eq_true c3
   clear c3
   simp only [Option.some.injEq, Prod.mk.injEq] at H
   obtain ⟨rfl, rfl, rfl⟩ := H
   go_enter Tryd.func17, Tryd.ntmps17
   go_wp2_with (first | ((with_reducible refine gate_callee (f := 43) rfl ?_); refine goesM_ (some 13) Tryd.func43 #[.string a0, .int .u8 0] ?_; (with_reducible refine (r7_index.calls k a0 0 t128 _ A2.out).mono ?_); rintro e w' ⟨rfl, ⟨nd, rfl⟩⟩; refine ⟨_, rfl, ?_⟩))
   go_ret3
   exact ⟨xz_, bz_⟩
 ·
  rw [if_neg c3] at H
  have c3b0 : decide (t128 < 0) = false := decide_eq_false c3
  clear c3
  by_cases c4 : 0 ≤ t128
  ·
   rw [if_pos c4] at H
   have c4b0 := eq_true c4
   have c4b1 : decide (0 ≤ t128) = true := decide_eq_true c4
   clear c4
   by_cases c5 : t128 ≤ (a0.size : Int)
   ·
    rw [if_pos c5] at H
    have c5b0 := eq_true c5
    have c5b1 : decide (t128 ≤ (a0.size : Int)) = true := decide_eq_true c5
    clear c5
    replace H := Option.bind_eq_some_iff.mp H
    obtain ⟨t129, A60, H⟩ := H
    try dsimp only at H
    have A6 := Aside0.mk A60
    clear A60
    by_cases c7 : t129 < 0
    · rw [if_pos c7] at H
      have c7b0 : decide (t129 < 0) = true := decide_eq_true c7
      clear c7
      simp only [Option.some.injEq, Prod.mk.injEq] at H
      obtain ⟨rfl, rfl, rfl⟩ := H
      go_enter Tryd.func17, Tryd.ntmps17
      go_wp2_with (first | ((with_reducible refine gate_callee (f := 43) rfl ?_); refine goesM_ (some 13) Tryd.func43 #[.string a0, .int .u8 0] ?_; (with_reducible refine (r7_index.calls k a0 0 t128 _ A2.out).mono ?_); rintro e w' ⟨rfl, ⟨nd, rfl⟩⟩; refine ⟨_, rfl, ?_⟩) | ((with_reducible refine gate_callee (f := 43) rfl ?_); refine goesM_ (some 19) Tryd.func43 #[.string (a0.extract 0 (t128 : Int).toNat), .int .u8 32] ?_; (with_reducible refine (r7_index.calls k (a0.extract 0 (t128 : Int).toNat) 32 t129 _ A6.out).mono ?_); rintro e w' ⟨rfl, ⟨nd, rfl⟩⟩; refine ⟨_, rfl, ?_⟩))
      go_ret3
      exact ⟨xz_, bz_⟩
    ·
     rw [if_neg c7] at H
     have c7b0 : decide (t129 < 0) = false := decide_eq_false c7
     clear c7
     have H' := Aside0.mk H
     clear H
     go_enter Tryd.func17, Tryd.ntmps17
     go_wp2_with (first | ((with_reducible refine gate_callee (f := 43) rfl ?_); refine goesM_ (some 13) Tryd.func43 #[.string a0, .int .u8 0] ?_; (with_reducible refine (r7_index.calls k a0 0 t128 _ A2.out).mono ?_); rintro e w' ⟨rfl, ⟨nd, rfl⟩⟩; refine ⟨_, rfl, ?_⟩) | ((with_reducible refine gate_callee (f := 43) rfl ?_); refine goesM_ (some 19) Tryd.func43 #[.string (a0.extract 0 (t128 : Int).toNat), .int .u8 32] ?_; (with_reducible refine (r7_index.calls k (a0.extract 0 (t128 : Int).toNat) 32 t129 _ A6.out).mono ?_); rintro e w' ⟨rfl, ⟨nd, rfl⟩⟩; refine ⟨_, rfl, ?_⟩))
     go_loopg [7, 8] k (fun kq v7 v8 w' => ∃ (x7_1 : Int) (x8_1 : Int), v7 = .int .i64 x7_1 ∧ v8 = .int .i64 x8_1 ∧ Aside0 (r7_Open.l0 kq a0 t128 t129 x7_1 x8_1 = some (r1, r2, r3)) ∧ Aside0 (kq ≤ k) ∧ Aside0 (Below w.heap.size w w'))
     case atStart => exact ⟨(0), (1), ez_, ez_, H', ⟨Nat.le_refl _⟩, ⟨bz_⟩⟩
     case round =>
      clear H'
      try clear c1
      try clear p2
      try clear c3
      try clear c3b0
      try clear c4
      try clear c4b0
      try clear c4b1
      try clear c5
      try clear c5b0
      try clear c5b1
      try clear c7
      try clear c7b0
      obtain ⟨x7_1, x8_1, rfl, rfl, HA, HK1, HB⟩ := hrel
      cases gk with
      | zero => exact absurd HA.out (by simp [r7_Open.l0])
      | succ k1 =>
       have H := HA.out
       clear HA
       simp only [r7_Open.l0] at H
       by_cases c8 : x8_1 < 5
       ·
        rw [if_pos c8] at H
        have c8b0 : decide (x8_1 < 5) = true := decide_eq_true c8
        clear c8
        replace H := Option.bind_eq_some_iff.mp H
        obtain ⟨t130, A90, H⟩ := H
        try dsimp only at H
        have A9 := Aside0.mk A90
        clear A90
        by_cases c10 : 0 ≤ t129
        ·
         rw [if_pos c10] at H
         have c10b0 := eq_true c10
         have c10b1 : decide (0 ≤ t129) = true := decide_eq_true c10
         clear c10
         by_cases c11 : t129 ≤ (a0.size : Int)
         ·
          rw [if_pos c11] at H
          have c11b0 := eq_true c11
          have c11b1 : decide (t129 ≤ (a0.size : Int)) = true := decide_eq_true c11
          clear c11
          by_cases c12 : t130.toList = (a0.extract 0 (t129 : Int).toNat).toList
          ·
           rw [if_pos c12] at H
           have c12b0 : (t130.toList == (a0.extract 0 (t129 : Int).toNat).toList) = true := beq_iff_eq.mpr c12
           have c12b1 : (t130.toList != (a0.extract 0 (t129 : Int).toNat).toList) = false := bne_eq_false_iff_eq.mpr c12
           clear c12
           have H' := Aside0.mk H
           clear H
           try go_wp2
           have n0_ := Aside0.mk (below_drew1 HB.out)
           clear HB
           have HB := n0_
           clear n0_
           refine start_ (n := 6) (S := fun w' => True) (ds := []) #[false, false, false, false, false, false] (by kernel_rfl) rfl rfl trivial (fun hHeld => ?_)
           generalize wr.drew = w13 at HB hHeld ⊢
           refine pure_ (i := 0) (N := some 26) (v := ?_) (a' := ?_) #[true, false, false, false, false, false] rfl rfl (by kernel_rfl) (fun _ _ _ h => h) (Or.inl ⟨by rfl, ?_⟩) ?_ ?_
           rotate_left
           · intro w'
             go_simp
             with_reducible rfl
           rotate_left
           · simp only [Act.put, List.setIfInBounds_toArray, List.set_cons_zero, List.set_cons_succ, i64_w, i32_w]
             rfl
           refine pure_ (i := 2) (N := some 28) (v := ?_) (a' := ?_) #[true, false, true, false, false, false] rfl rfl (by kernel_rfl) (fun _ _ _ h => h) (Or.inl ⟨by rfl, ?_⟩) ?_ ?_
           rotate_left
           · intro w'
             go_simp
             with_reducible rfl
           rotate_left
           · simp only [Act.put, List.setIfInBounds_toArray, List.set_cons_zero, List.set_cons_succ, i64_w, i32_w]
             rfl
           refine pure_ (i := 3) (N := some 29) (v := ?_) (a' := ?_) #[true, false, true, true, false, false] rfl rfl (by kernel_rfl) (fun _ _ _ h => h) (Or.inl ⟨by rfl, ?_⟩) ?_ ?_
           rotate_left
           · intro w'
             go_simp
             with_reducible rfl
           rotate_left
           · simp only [Act.put, List.setIfInBounds_toArray, List.set_cons_zero, List.set_cons_succ, i64_w, i32_w]
             rfl
           refine pure_ (i := 4) (N := some 30) (v := ?_) (a' := ?_) #[true, false, true, true, true, false] rfl rfl (by kernel_rfl) (fun _ _ _ h => h) (Or.inl ⟨by rfl, ?_⟩) ?_ ?_
           rotate_left
           · intro w'
             go_simp
             with_reducible rfl
           rotate_left
           · simp only [Act.put, List.setIfInBounds_toArray, List.set_cons_zero, List.set_cons_succ, i64_w, i32_w]
             rfl
           refine one_ (i := 1) (N := some 27) #[true, true, true, true, true, false] rfl rfl (by kernel_rfl) (by decide) (fun K hK => ?_)
           refine goes_ Tryd.func44 (by kernel_rfl) rfl #[.int .i64 x8_1] (by rfl) rfl rfl (by (try simp only [List.map_toArray, List.map_cons, List.map_nil]); first | done | rfl | (simp only [List.length_drop, List.length_take]; rfl)) ?_
           with_reducible refine (r7_kind.calls x8_1 t130 _ A9.out).mono ?_
           rintro e w14 ⟨rfl, hb⟩
           refine ⟨_, rfl, ?_⟩
           have n0_ := Aside0.mk (below_step bz_ hb)
           clear HB
           have HB := n0_
           clear n0_
           (try clear hb)
           (try clear hb2)
           (try clear hk)
           (try clear hi)
           refine hK.out _ _ trivial (fun hHeld => ?_)
           clear hK K
           refine norm_ (a' := ?_) ?_ ?_
           rotate_left
           · show Act.put _ (some 27) _ = _
             simp only [Act.put, List.setIfInBounds_toArray, List.set_cons_zero, List.set_cons_succ, i64_w, i32_w]
             rfl
           refine pure_ (i := 5) (N := some 31) (v := ?_) (a' := ?_) #[true, true, true, true, true, true] rfl rfl (by kernel_rfl) (fun _ _ _ h => h) (Or.inl ⟨by rfl, ?_⟩) ?_ ?_
           rotate_left
           · intro w'
             go_simp
             with_reducible rfl
           rotate_left
           · simp only [Act.put, List.setIfInBounds_toArray, List.set_cons_zero, List.set_cons_succ, i64_w, i32_w]
             rfl
           refine done_ (by kernel_rfl) ?_
           try go_wp2
           go_roundg k1
           case measure => have := HK1.out; omega
           case rel => exact ⟨(x8_1), (wrap64 (x8_1 + 1)), ez_, ez_, H', ⟨by have := HK1.out; omega⟩, ⟨bz_⟩⟩
          ·
           rw [if_neg c12] at H
           have c12b0 : (t130.toList == (a0.extract 0 (t129 : Int).toNat).toList) = false := beq_eq_false_iff_ne.mpr c12
           have c12b1 : (t130.toList != (a0.extract 0 (t129 : Int).toNat).toList) = true := bne_iff_ne.mpr c12
           have H' := Aside0.mk H
           clear H
           try go_wp2
           have n0_ := Aside0.mk (below_drew1 HB.out)
           clear HB
           have HB := n0_
           clear n0_
           refine start_ (n := 6) (S := fun w' => True) (ds := []) #[false, false, false, false, false, false] (by kernel_rfl) rfl rfl trivial (fun hHeld => ?_)
           generalize wr.drew = w15 at HB hHeld ⊢
           refine pure_ (i := 0) (N := some 26) (v := ?_) (a' := ?_) #[true, false, false, false, false, false] rfl rfl (by kernel_rfl) (fun _ _ _ h => h) (Or.inl ⟨by rfl, ?_⟩) ?_ ?_
           rotate_left
           · intro w'
             go_simp
             with_reducible rfl
           rotate_left
           · simp only [Act.put, List.setIfInBounds_toArray, List.set_cons_zero, List.set_cons_succ, i64_w, i32_w]
             rfl
           refine pure_ (i := 2) (N := some 28) (v := ?_) (a' := ?_) #[true, false, true, false, false, false] rfl rfl (by kernel_rfl) (fun _ _ _ h => h) (Or.inl ⟨by rfl, ?_⟩) ?_ ?_
           rotate_left
           · intro w'
             go_simp
             with_reducible rfl
           rotate_left
           · simp only [Act.put, List.setIfInBounds_toArray, List.set_cons_zero, List.set_cons_succ, i64_w, i32_w]
             rfl
           refine pure_ (i := 3) (N := some 29) (v := ?_) (a' := ?_) #[true, false, true, true, false, false] rfl rfl (by kernel_rfl) (fun _ _ _ h => h) (Or.inl ⟨by rfl, ?_⟩) ?_ ?_
           rotate_left
           · intro w'
             go_simp
             with_reducible rfl
           rotate_left
           · simp only [Act.put, List.setIfInBounds_toArray, List.set_cons_zero, List.set_cons_succ, i64_w, i32_w]
             rfl
           refine pure_ (i := 4) (N := some 30) (v := ?_) (a' := ?_) #[true, false, true, true, true, false] rfl rfl (by kernel_rfl) (fun _ _ _ h => h) (Or.inl ⟨by rfl, ?_⟩) ?_ ?_
           rotate_left
           · intro w'
             go_simp
             with_reducible rfl
           rotate_left
           · simp only [Act.put, List.setIfInBounds_toArray, List.set_cons_zero, List.set_cons_succ, i64_w, i32_w]
             rfl
           refine one_ (i := 1) (N := some 27) #[true, true, true, true, true, false] rfl rfl (by kernel_rfl) (by decide) (fun K hK => ?_)
           refine goes_ Tryd.func44 (by kernel_rfl) rfl #[.int .i64 x8_1] (by rfl) rfl rfl (by (try simp only [List.map_toArray, List.map_cons, List.map_nil]); first | done | rfl | (simp only [List.length_drop, List.length_take]; rfl)) ?_
           with_reducible refine (r7_kind.calls x8_1 t130 _ A9.out).mono ?_
           rintro e w16 ⟨rfl, hb⟩
           refine ⟨_, rfl, ?_⟩
           have n0_ := Aside0.mk (below_step bz_ hb)
           clear HB
           have HB := n0_
           clear n0_
           (try clear hb)
           (try clear hb2)
           (try clear hk)
           (try clear hi)
           refine hK.out _ _ trivial (fun hHeld => ?_)
           clear hK K
           refine norm_ (a' := ?_) ?_ ?_
           rotate_left
           · show Act.put _ (some 27) _ = _
             simp only [Act.put, List.setIfInBounds_toArray, List.set_cons_zero, List.set_cons_succ, i64_w, i32_w]
             rfl
           refine pure_ (i := 5) (N := some 31) (v := ?_) (a' := ?_) #[true, true, true, true, true, true] rfl rfl (by kernel_rfl) (fun _ _ _ h => h) (Or.inl ⟨by rfl, ?_⟩) ?_ ?_
           rotate_left
           · intro w'
             go_simp
             with_reducible rfl
           rotate_left
           · simp only [Act.put, List.setIfInBounds_toArray, List.set_cons_zero, List.set_cons_succ, i64_w, i32_w]
             rfl
           refine done_ (by kernel_rfl) ?_
           try go_wp2
           go_roundg k1
           case measure => have := HK1.out; omega
           case rel => exact ⟨(x7_1), (wrap64 (x8_1 + 1)), ez_, ez_, H', ⟨by have := HK1.out; omega⟩, ⟨bz_⟩⟩
         · rw [if_neg c11] at H
           exact absurd H (by simp)
        · rw [if_neg c10] at H
          exact absurd H (by simp)
       ·
        rw [if_neg c8] at H
        have c8b0 : decide (x8_1 < 5) = false := decide_eq_false c8
        clear c8
        by_cases c17 : x7_1 = 0
        · rw [if_pos c17] at H
          have c17b0 : (x7_1 == 0) = true := beq_iff_eq.mpr c17
          have c17b1 : (x7_1 != 0) = false := bne_eq_false_iff_eq.mpr c17
          clear c17
          simp only [Option.some.injEq, Prod.mk.injEq] at H
          obtain ⟨rfl, rfl, rfl⟩ := H
          go_wp2
          go_ret3
          exact ⟨xz_, bz_⟩
        ·
         rw [if_neg c17] at H
         have c17b0 : (x7_1 == 0) = false := beq_eq_false_iff_ne.mpr c17
         have c17b1 : (x7_1 != 0) = true := bne_iff_ne.mpr c17
         obtain ⟨ji18, hji18⟩ : ∃ j_ : Int, (wrap64 (t129 + 1)) = j_ := ⟨_, rfl⟩
         replace H : (if 0 ≤ (ji18) then (if (ji18) ≤ t128 then (if t128 ≤ (a0.size : Int) then ((r2_Undec.f k1 (a0.extract ((ji18) : Int).toNat (t128 : Int).toNat)).bind fun bt131 => (if 0 ≤ (wrap64 (t128 + 1)) then (if (wrap64 (t128 + 1)) ≤ (a0.size : Int) then (if bt131.2 = 0 then (if bt131.1 > 262144 then (some (0, (⟨#[]⟩ : ByteArray), 3)) else (if (wrap64 (bt131.1)) > ((a0.extract ((wrap64 (t128 + 1)) : Int).toNat a0.size).size : Int) then (some (0, (⟨#[]⟩ : ByteArray), 4)) else (if (wrap64 (bt131.1)) < ((a0.extract ((wrap64 (t128 + 1)) : Int).toNat a0.size).size : Int) then (some (0, (⟨#[]⟩ : ByteArray), 5)) else (some (x7_1, a0.extract ((wrap64 (t128 + 1)) : Int).toNat a0.size, 0))))) else (some (0, (⟨#[]⟩ : ByteArray), bt131.2))) else (none)) else (none))) else (none)) else (none)) else (none)) = some (r1, r2, r3) := by first | (rw [hji18] at H; exact H) | (simp only [hji18] at H ⊢; exact H)
         have hji18w : (IntKind.i64.wrap (t129 + 1)) = ji18 := (i64_w _).trans hji18
         by_cases c19 : 0 ≤ (ji18)
         ·
          rw [if_pos c19] at H
          have c19b0 := eq_true c19
          have c19b1 : decide (0 ≤ (ji18)) = true := decide_eq_true c19
          clear c19
          by_cases c20 : (ji18) ≤ t128
          ·
           rw [if_pos c20] at H
           have c20b0 := eq_true c20
           have c20b1 : decide ((ji18) ≤ t128) = true := decide_eq_true c20
           clear c20
           by_cases c21 : t128 ≤ (a0.size : Int)
           ·
            rw [if_pos c21] at H
            have c21b0 := eq_true c21
            have c21b1 : decide (t128 ≤ (a0.size : Int)) = true := decide_eq_true c21
            clear c21
            replace H := Option.bind_eq_some_iff.mp H
            obtain ⟨⟨t131, t132⟩, A220, H⟩ := H
            try dsimp only at H
            have A22 := Aside0.mk A220
            clear A220
            obtain ⟨ji23, hji23⟩ : ∃ j_ : Int, (wrap64 (t128 + 1)) = j_ := ⟨_, rfl⟩
            replace H : (if 0 ≤ (ji23) then (if (ji23) ≤ (a0.size : Int) then (if t132 = 0 then (if t131 > 262144 then (some (0, (⟨#[]⟩ : ByteArray), 3)) else (if (wrap64 (t131)) > ((a0.extract ((ji23) : Int).toNat a0.size).size : Int) then (some (0, (⟨#[]⟩ : ByteArray), 4)) else (if (wrap64 (t131)) < ((a0.extract ((ji23) : Int).toNat a0.size).size : Int) then (some (0, (⟨#[]⟩ : ByteArray), 5)) else (some (x7_1, a0.extract ((ji23) : Int).toNat a0.size, 0))))) else (some (0, (⟨#[]⟩ : ByteArray), t132))) else (none)) else (none)) = some (r1, r2, r3) := by first | (rw [hji23] at H; exact H) | (simp only [hji23] at H ⊢; exact H)
            (try rw [hji23] at A22)
            have hji23w : (IntKind.i64.wrap (t128 + 1)) = ji23 := (i64_w _).trans hji23
            by_cases c24 : 0 ≤ (ji23)
            ·
             rw [if_pos c24] at H
             have c24b0 := eq_true c24
             have c24b1 : decide (0 ≤ (ji23)) = true := decide_eq_true c24
             clear c24
             by_cases c25 : (ji23) ≤ (a0.size : Int)
             ·
              rw [if_pos c25] at H
              have c25b0 := eq_true c25
              have c25b1 : decide ((ji23) ≤ (a0.size : Int)) = true := decide_eq_true c25
              clear c25
              by_cases c26 : t132 = 0
              ·
               rw [if_pos c26] at H
               have c26b0 : (t132 == 0) = true := beq_iff_eq.mpr c26
               have c26b1 : (t132 != 0) = false := bne_eq_false_iff_eq.mpr c26
               clear c26
               by_cases c27 : t131 > 262144
               · rw [if_pos c27] at H
                 have c27b0 : decide (262144 < t131) = true := decide_eq_true c27
                 clear c27
                 simp only [Option.some.injEq, Prod.mk.injEq] at H
                 obtain ⟨rfl, rfl, rfl⟩ := H
                 go_wp2_with (first | ((with_reducible refine gate_callee (f := 26) rfl ?_); refine goesL_ (some 41) rfl rfl Tryd.func26 (by kernel_rfl) rfl #[.string (a0.extract ((ji18) : Int).toNat (t128 : Int).toNat)] rfl (by (try simp only [List.map_toArray, List.map_cons, List.map_nil]); first | done | (simp only [hji18]; rfl) | rfl | (simp only [List.length_drop, List.length_take]; rfl)) ?_; (with_reducible refine (r2_Undec.calls k1 (a0.extract ((ji18) : Int).toNat (t128 : Int).toNat) t131 t132 _ A22.out).mono ?_); rintro e w' ⟨rfl, ⟨nd, rfl⟩⟩; refine ⟨_, rfl, ?_⟩))
                 go_ret3
                 exact ⟨by first | rfl | (simp [errW_none, errW_some] <;> rfl) | (simp only [← hji18, ← hji23]; first | rfl | (simp [errW_none, errW_some] <;> rfl)) | (simp [*, errW_none, errW_some] <;> rfl), bz_⟩
               ·
                rw [if_neg c27] at H
                have c27b0 : decide (262144 < t131) = false := decide_eq_false c27
                clear c27
                by_cases c28 : (wrap64 (t131)) > ((a0.extract ((ji23) : Int).toNat a0.size).size : Int)
                ·
                 rw [if_pos c28] at H
                 have c28b0 : decide (((a0.extract ((ji23) : Int).toNat a0.size).size : Int) < (wrap64 (t131))) = true := decide_eq_true c28
                 have hz_ : (a0.extract ((ji23) : Int).toNat a0.size).size = (a0.size - (ji23 : Int).toNat) := by simp
                 have c28b4 := c28b0
                 rw [hz_] at c28b4
                 have c28b5 : ((((a0.size - (ji23 : Int).toNat) : Nat) : Int) < (wrap64 (t131))) = True := eq_true (of_decide_eq_true c28b4)
                 have c28b6 : ((wrap64 (t131)) ≤ (((a0.size - (ji23 : Int).toNat) : Nat) : Int)) = False := eq_false (Int.not_le.2 (of_decide_eq_true c28b4))
                 clear hz_
                 clear c28
                 simp only [Option.some.injEq, Prod.mk.injEq] at H
                 obtain ⟨rfl, rfl, rfl⟩ := H
                 go_wp2_with (first | ((with_reducible refine gate_callee (f := 26) rfl ?_); refine goesL_ (some 41) rfl rfl Tryd.func26 (by kernel_rfl) rfl #[.string (a0.extract ((ji18) : Int).toNat (t128 : Int).toNat)] rfl (by (try simp only [List.map_toArray, List.map_cons, List.map_nil]); first | done | (simp only [hji18]; rfl) | rfl | (simp only [List.length_drop, List.length_take]; rfl)) ?_; (with_reducible refine (r2_Undec.calls k1 (a0.extract ((ji18) : Int).toNat (t128 : Int).toNat) t131 t132 _ A22.out).mono ?_); rintro e w' ⟨rfl, ⟨nd, rfl⟩⟩; refine ⟨_, rfl, ?_⟩))
                 go_ret3
                 exact ⟨by first | rfl | (simp [errW_none, errW_some] <;> rfl) | (simp only [← hji18, ← hji23]; first | rfl | (simp [errW_none, errW_some] <;> rfl)) | (simp [*, errW_none, errW_some] <;> rfl), bz_⟩
                ·
                 rw [if_neg c28] at H
                 have c28b0 : decide (((a0.extract ((ji23) : Int).toNat a0.size).size : Int) < (wrap64 (t131))) = false := decide_eq_false c28
                 have hz_ : (a0.extract ((ji23) : Int).toNat a0.size).size = (a0.size - (ji23 : Int).toNat) := by simp
                 have c28b4 := c28b0
                 rw [hz_] at c28b4
                 have c28b5 : ((((a0.size - (ji23 : Int).toNat) : Nat) : Int) < (wrap64 (t131))) = False := eq_false (of_decide_eq_false c28b4)
                 have c28b6 : ((wrap64 (t131)) ≤ (((a0.size - (ji23 : Int).toNat) : Nat) : Int)) = True := eq_true (Int.not_lt.1 (of_decide_eq_false c28b4))
                 clear hz_
                 clear c28
                 by_cases c29 : (wrap64 (t131)) < ((a0.extract ((ji23) : Int).toNat a0.size).size : Int)
                 ·
                  rw [if_pos c29] at H
                  have c29b0 : decide ((wrap64 (t131)) < ((a0.extract ((ji23) : Int).toNat a0.size).size : Int)) = true := decide_eq_true c29
                  have hz_ : (a0.extract ((ji23) : Int).toNat a0.size).size = (a0.size - (ji23 : Int).toNat) := by simp
                  have c29b4 := c29b0
                  rw [hz_] at c29b4
                  have c29b5 : ((wrap64 (t131)) < (((a0.size - (ji23 : Int).toNat) : Nat) : Int)) = True := eq_true (of_decide_eq_true c29b4)
                  have c29b6 : ((((a0.size - (ji23 : Int).toNat) : Nat) : Int) ≤ (wrap64 (t131))) = False := eq_false (Int.not_le.2 (of_decide_eq_true c29b4))
                  clear hz_
                  clear c29
                  simp only [Option.some.injEq, Prod.mk.injEq] at H
                  obtain ⟨rfl, rfl, rfl⟩ := H
                  go_wp2_with (first | ((with_reducible refine gate_callee (f := 26) rfl ?_); refine goesL_ (some 41) rfl rfl Tryd.func26 (by kernel_rfl) rfl #[.string (a0.extract ((ji18) : Int).toNat (t128 : Int).toNat)] rfl (by (try simp only [List.map_toArray, List.map_cons, List.map_nil]); first | done | (simp only [hji18]; rfl) | rfl | (simp only [List.length_drop, List.length_take]; rfl)) ?_; (with_reducible refine (r2_Undec.calls k1 (a0.extract ((ji18) : Int).toNat (t128 : Int).toNat) t131 t132 _ A22.out).mono ?_); rintro e w' ⟨rfl, ⟨nd, rfl⟩⟩; refine ⟨_, rfl, ?_⟩))
                  go_ret3
                  exact ⟨by first | rfl | (simp [errW_none, errW_some] <;> rfl) | (simp only [← hji18, ← hji23]; first | rfl | (simp [errW_none, errW_some] <;> rfl)) | (simp [*, errW_none, errW_some] <;> rfl), bz_⟩
                 ·
                  rw [if_neg c29] at H
                  have c29b0 : decide ((wrap64 (t131)) < ((a0.extract ((ji23) : Int).toNat a0.size).size : Int)) = false := decide_eq_false c29
                  have hz_ : (a0.extract ((ji23) : Int).toNat a0.size).size = (a0.size - (ji23 : Int).toNat) := by simp
                  have c29b4 := c29b0
                  rw [hz_] at c29b4
                  have c29b5 : ((wrap64 (t131)) < (((a0.size - (ji23 : Int).toNat) : Nat) : Int)) = False := eq_false (of_decide_eq_false c29b4)
                  have c29b6 : ((((a0.size - (ji23 : Int).toNat) : Nat) : Int) ≤ (wrap64 (t131))) = True := eq_true (Int.not_lt.1 (of_decide_eq_false c29b4))
                  clear hz_
                  clear c29
                  simp only [Option.some.injEq, Prod.mk.injEq] at H
                  obtain ⟨rfl, rfl, rfl⟩ := H
                  go_wp2_with (first | ((with_reducible refine gate_callee (f := 26) rfl ?_); refine goesL_ (some 41) rfl rfl Tryd.func26 (by kernel_rfl) rfl #[.string (a0.extract ((ji18) : Int).toNat (t128 : Int).toNat)] rfl (by (try simp only [List.map_toArray, List.map_cons, List.map_nil]); first | done | (simp only [hji18]; rfl) | rfl | (simp only [List.length_drop, List.length_take]; rfl)) ?_; (with_reducible refine (r2_Undec.calls k1 (a0.extract ((ji18) : Int).toNat (t128 : Int).toNat) t131 t132 _ A22.out).mono ?_); rintro e w' ⟨rfl, ⟨nd, rfl⟩⟩; refine ⟨_, rfl, ?_⟩))
                  go_ret3
                  exact ⟨by first | rfl | (simp [errW_none, errW_some] <;> rfl) | (simp only [← hji18, ← hji23]; first | rfl | (simp [errW_none, errW_some] <;> rfl)) | (simp [*, errW_none, errW_some] <;> rfl), bz_⟩
              · rw [if_neg c26] at H
                have c26b0 : (t132 == 0) = false := beq_eq_false_iff_ne.mpr c26
                have c26b1 : (t132 != 0) = true := bne_iff_ne.mpr c26
                simp only [Option.some.injEq, Prod.mk.injEq] at H
                obtain ⟨rfl, rfl, rfl⟩ := H
                go_wp2_with (first | ((with_reducible refine gate_callee (f := 26) rfl ?_); refine goesL_ (some 41) rfl rfl Tryd.func26 (by kernel_rfl) rfl #[.string (a0.extract ((ji18) : Int).toNat (t128 : Int).toNat)] rfl (by (try simp only [List.map_toArray, List.map_cons, List.map_nil]); first | done | (simp only [hji18]; rfl) | rfl | (simp only [List.length_drop, List.length_take]; rfl)) ?_; (with_reducible refine (r2_Undec.calls k1 (a0.extract ((ji18) : Int).toNat (t128 : Int).toNat) t131 t132 _ A22.out).mono ?_); rintro e w' ⟨rfl, ⟨nd, rfl⟩⟩; refine ⟨_, rfl, ?_⟩))
                go_ret3
                exact ⟨by first | rfl | (simp [errW_none, errW_some] <;> rfl) | (simp only [← hji18, ← hji23]; first | rfl | (simp [errW_none, errW_some] <;> rfl)) | (simp [*, errW_none, errW_some] <;> rfl), bz_⟩
             · rw [if_neg c25] at H
               exact absurd H (by simp)
            · rw [if_neg c24] at H
              exact absurd H (by simp)
           · rw [if_neg c21] at H
             exact absurd H (by simp)
          · rw [if_neg c20] at H
            exact absurd H (by simp)
         · rw [if_neg c19] at H
           exact absurd H (by simp)
   · rw [if_neg c5] at H
     exact absurd H (by simp)
  · rw [if_neg c4] at H
    exact absurd H (by simp)

end Go.Proofs.YtnapcfpecpgdbaaDoor.M
