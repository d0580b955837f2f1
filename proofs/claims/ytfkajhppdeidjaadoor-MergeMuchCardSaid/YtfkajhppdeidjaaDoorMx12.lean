/- The program's functions as plain functions, and that each call comes to what these tell; written by a program of this session, some contracts by hand. Conditions: none. -/
import Derived.Test.YtfkajhppdeidjaaDoorMx0
import Derived.Test.YtfkajhppdeidjaaDoorMx7
import Derived.Test.YtfkajhppdeidjaaDoorMx8
namespace Go.Proofs.YtfkajhppdeidjaaDoor.M
open Go.RowKit Go.Proofs.YtfkajhppdeidjaaDoorW.PrintWords Go.Proofs.YtfkajhppdeidjaaDoorW.PrintLast Go.Proofs.YtfkajhppdeidjaaDoorW.PrintMore
attribute [local go_sem] max2_int min2_int max_two min_two max_three min_three max_four min_four   -- for this text's walks alone
set_option linter.unusedVariables false
set_option linter.unusedSimpArgs false

/-! ### pollardlaw19_MergeMuch: function 8 -/
def pollardlaw19_MergeMuch.l0 : Nat → Int → ByteArray → Int → Option (Bool)
  | 0, _, _, _ => none
  | k + 1, x3, x4, x5 => if x5 < x3 then (if x4.size + 2 ≤ 9223372036854775807 then (pollardlaw19_MergeMuch.l0 k x3 (x4 ++ (⟨#[120, 10]⟩ : ByteArray)) (wrap64 (x5 + 1))) else (none)) else (if x4.size + 1 ≤ 9223372036854775807 then ((merge_Texts.f k x4 (x4 ++ (⟨#[121]⟩ : ByteArray)) x4).bind fun bt270 => (if (wrap64 (x3 + 1)) > 400 then ((pollardlaw19_awake.f k).bind fun t273 => (if t273 = true then (if bt270.2.2 = 3 then (if bt270.1.toList = ([] : List UInt8) then (some (!bt270.2.1)) else (none)) else (none)) else (none))) else ((pollardlaw19_awake.f k).bind fun t274 => (if t274 = true then (if bt270.2.2 = 0 then (if bt270.2.1 = true then (some (bt270.1.toList == (x4 ++ (⟨#[121]⟩ : ByteArray)).toList)) else (none)) else (none)) else (none))))) else (none))
def pollardlaw19_MergeMuch.f (k : Nat) (a0 : Int) : Option (Bool) := pollardlaw19_MergeMuch.l0 k (wrap64 (398 + (Go.bits .and .i64 a0 3))) (⟨#[]⟩ : ByteArray) 0
theorem pollardlaw19_MergeMuch.mono_l : ∀ k, (∀ y0 y1 y2, LeO (pollardlaw19_MergeMuch.l0 k y0 y1 y2) (pollardlaw19_MergeMuch.l0 (k + 1) y0 y1 y2))
  | 0 => fun _ _ _ r h => by simp [pollardlaw19_MergeMuch.l0] at h
  | k + 1 => by
    have ih0 := pollardlaw19_MergeMuch.mono_l k
    · intro y0 y1 y2
      unfold pollardlaw19_MergeMuch.l0
      repeat' first
      | (with_reducible exact ih0 _ _ _)
      | (with_reducible exact merge_Texts.mono _ _ _ _)
      | (with_reducible exact pollardlaw19_awake.mono _)
      | (with_reducible exact LeO.refl _)
      | (with_reducible exact LeO.none _)
      | (with_reducible refine LeO.ite ?_ ?_)
      | (with_reducible refine LeO.bind ?_ (fun _ => ?_))
      | exact ih0 _ _ _
      | exact merge_Texts.mono _ _ _ _
      | exact pollardlaw19_awake.mono _
      | exact LeO.none _
      | refine LeO.ite ?_ ?_
      | refine LeO.bind ?_ (fun _ => ?_)
theorem pollardlaw19_MergeMuch.mono : ∀ a0 k, LeO (pollardlaw19_MergeMuch.f k a0) (pollardlaw19_MergeMuch.f (k + 1) a0) := by
  intro a0 k
  have ih0 := pollardlaw19_MergeMuch.mono_l k
  unfold pollardlaw19_MergeMuch.f
  repeat' first
      | (with_reducible exact ih0 _ _ _)
      | (with_reducible exact merge_Texts.mono _ _ _ _)
      | (with_reducible exact pollardlaw19_awake.mono _)
      | (with_reducible exact LeO.refl _)
      | (with_reducible exact LeO.none _)
      | (with_reducible refine LeO.ite ?_ ?_)
      | (with_reducible refine LeO.bind ?_ (fun _ => ?_))
      | exact ih0 _ _ _
      | exact merge_Texts.mono _ _ _ _
      | exact pollardlaw19_awake.mono _
      | exact LeO.none _
      | refine LeO.ite ?_ ?_
      | refine LeO.bind ?_ (fun _ => ?_)
set_option maxHeartbeats 8000000 in
set_option maxRecDepth 100000 in
theorem pollardlaw19_MergeMuch.calls (k : Nat) (a0 : Int) (r : Bool) (w : World) (h : pollardlaw19_MergeMuch.f k a0 = some r) :
    Calls Tryd.prog 8 #[.int .i64 a0] w fun e w' => e = .returned (.bool r) ∧ Below w.heap.size w w' := by
  have HB := Aside0.mk (Below.refl w.heap.size w)
  have H : (pollardlaw19_MergeMuch.l0 k (wrap64 (398 + (Go.bits .and .i64 a0 3))) (⟨#[]⟩ : ByteArray) 0) = some r := h
  clear h
  have H' := Aside0.mk H
  clear H
  go_enter Tryd.func8, Tryd.ntmps8
  go_wp2
  go_loopg [4, 5] k (fun kq v4 v5 w' => ∃ (x4_1 : ByteArray) (x5_1 : Int), v4 = .string x4_1 ∧ v5 = .int .i64 x5_1 ∧ Aside0 (pollardlaw19_MergeMuch.l0 kq (wrap64 (398 + (Go.bits .and .i64 a0 3))) x4_1 x5_1 = some r) ∧ Aside0 (kq ≤ k) ∧ Aside0 (Below w.heap.size w w'))
  case atStart => exact ⟨((⟨#[]⟩ : ByteArray)), (0), (by first | rfl | (simp; done) | (simp [*]; done)), (by first | rfl | (simp; done) | (simp [*]; done)), H', ⟨Nat.le_refl _⟩, ⟨by repeat (first | (with_reducible first | exact HB.out | apply below_alloc | apply pw_below_drewN | apply below_drew1) | exact HB.out)⟩⟩
  case round =>
    clear H'
    obtain ⟨x4_1, x5_1, rfl, rfl, HA, HK1, HB⟩ := hrel
    cases gk with
    | zero => exact absurd HA.out (by simp [pollardlaw19_MergeMuch.l0])
    | succ k1 =>
      have H := HA.out
      clear HA
      simp only [pollardlaw19_MergeMuch.l0] at H
      by_cases c2 : x5_1 < (wrap64 (398 + (Go.bits .and .i64 a0 3)))
      · rw [if_pos c2] at H
        have c2b0 : decide (x5_1 < (wrap64 (398 + (Go.bits .and .i64 a0 3)))) = true := decide_eq_true c2
        clear c2
        by_cases c3 : x4_1.size + 2 ≤ 9223372036854775807
        · rw [if_pos c3] at H
          have c3b0 := eq_true c3
          have c3b1 : decide (x4_1.size + 2 ≤ 9223372036854775807) = true := decide_eq_true c3
          try have c3b2 : (9223372036854775807 < x4_1.size + 2) = False := eq_false (Nat.not_lt.2 c3)
          have H' := Aside0.mk H
          clear H
          go_wp2
          go_roundg k1
          case measure => have := HK1.out; omega
          case rel => exact ⟨(x4_1 ++ (⟨#[120, 10]⟩ : ByteArray)), (wrap64 (x5_1 + 1)), (by first | rfl | (simp; done) | (simp [*]; done)), (by first | rfl | (simp; done) | (simp [*]; done)), H', ⟨by have := HK1.out; omega⟩, ⟨by repeat (first | (with_reducible first | exact HB.out | apply below_alloc | apply pw_below_drewN | apply below_drew1) | exact HB.out)⟩⟩
        · rw [if_neg c3] at H
          exact absurd H (by simp)
      · rw [if_neg c2] at H
        have c2b0 : decide (x5_1 < (wrap64 (398 + (Go.bits .and .i64 a0 3)))) = false := decide_eq_false c2
        clear c2
        by_cases c4 : x4_1.size + 1 ≤ 9223372036854775807
        · rw [if_pos c4] at H
          have c4b0 := eq_true c4
          have c4b1 : decide (x4_1.size + 1 ≤ 9223372036854775807) = true := decide_eq_true c4
          try have c4b2 : (9223372036854775807 < x4_1.size + 1) = False := eq_false (Nat.not_lt.2 c4)
          replace H := Option.bind_eq_some_iff.mp H
          obtain ⟨⟨t270, t271, t272⟩, A50, H⟩ := H
          replace H : (if (wrap64 ((wrap64 (398 + (Go.bits .and .i64 a0 3))) + 1)) > 400 then ((pollardlaw19_awake.f k1).bind fun t273 => (if t273 = true then (if t272 = 3 then (if t270.toList = ([] : List UInt8) then (some (!t271)) else (none)) else (none)) else (none))) else ((pollardlaw19_awake.f k1).bind fun t274 => (if t274 = true then (if t272 = 0 then (if t271 = true then (some (t270.toList == (x4_1 ++ (⟨#[121]⟩ : ByteArray)).toList)) else (none)) else (none)) else (none)))) = some r := H
          have A5 := Aside0.mk A50
          clear A50
          by_cases c6 : (wrap64 ((wrap64 (398 + (Go.bits .and .i64 a0 3))) + 1)) > 400
          · rw [if_pos c6] at H
            have c6b0 : decide (400 < (wrap64 ((wrap64 (398 + (Go.bits .and .i64 a0 3))) + 1))) = true := decide_eq_true c6
            clear c6
            replace H := Option.bind_eq_some_iff.mp H
            obtain ⟨t273, A70, H⟩ := H
            replace H : (if t273 = true then (if t272 = 3 then (if t270.toList = ([] : List UInt8) then (some (!t271)) else (none)) else (none)) else (none)) = some r := H
            have A7 := Aside0.mk A70
            clear A70
            by_cases c8 : t273 = true
            · subst c8
              have H1 : (if t272 = 3 then (if t270.toList = ([] : List UInt8) then (some (!t271)) else (none)) else (none)) = some r := by rw [if_pos rfl] at H; exact H
              clear H
              have H := H1
              clear H1
              by_cases c9 : t272 = 3
              · rw [if_pos c9] at H
                have c9b0 : (t272 == 3) = true := beq_iff_eq.mpr c9
                have c9b1 : (t272 != 3) = false := bne_eq_false_iff_eq.mpr c9
                clear c9
                by_cases c10 : t270.toList = ([] : List UInt8)
                · rw [if_pos c10] at H
                  have c10b0 : (t270.toList == ([] : List UInt8)) = true := beq_iff_eq.mpr c10
                  have c10b1 : (t270.toList != ([] : List UInt8)) = false := bne_eq_false_iff_eq.mpr c10
                  clear c10
                  obtain rfl := Option.some.inj H
                  go_wp2_with (first | ((with_reducible refine gate_callee (f := 15) rfl ?_); refine goesL_ (some 24) rfl rfl Tryd.func15 (by kernel_rfl) rfl #[.string x4_1, .string (x4_1 ++ (⟨#[121]⟩ : ByteArray)), .string x4_1] rfl (by (try simp only [List.map_toArray, List.map_cons, List.map_nil]); first | done | rfl | (simp only [List.length_drop, List.length_take]; rfl)) ?_; (with_reducible refine (merge_Texts.calls k1 x4_1 (x4_1 ++ (⟨#[121]⟩ : ByteArray)) x4_1 t270 t271 t272 _ A5.out).mono ?_); rintro e w11 ⟨rfl, hb⟩; refine ⟨_, rfl, ?_⟩; have n0_ := Aside0.mk (below_step (by repeat (first | (with_reducible first | exact HB.out | apply below_alloc | apply pw_below_drewN | apply below_drew1) | exact HB.out)) hb); clear HB; have HB := n0_; clear n0_; (try clear hb); (try clear hb2); (try clear hk); (try clear hi)) | ((with_reducible refine gate_callee (f := 12) rfl ?_); refine goesL_ (some 31) rfl rfl Tryd.func12 (by kernel_rfl) rfl #[] rfl (by (try simp only [List.map_toArray, List.map_cons, List.map_nil]); first | done | rfl | (simp only [List.length_drop, List.length_take]; rfl)) ?_; (with_reducible refine (pollardlaw19_awake.calls k1  true _ A7.out).mono ?_); rintro e w12 ⟨rfl, hb⟩; refine ⟨_, rfl, ?_⟩; have n0_ := Aside0.mk (below_step (by repeat (first | (with_reducible first | exact HB.out | apply below_alloc | apply pw_below_drewN | apply below_drew1) | exact HB.out)) hb); clear HB; have HB := n0_; clear n0_; (try clear hb); (try clear hb2); (try clear hk); (try clear hi)))
                  go_ret
                  exact ⟨by first | rfl | (simp [errW_none, errW_some] <;> rfl) | (simp [*, errW_none, errW_some] <;> rfl), by repeat (first | (with_reducible first | exact HB.out | apply below_alloc | apply pw_below_drewN | apply below_drew1) | exact HB.out)⟩
                · rw [if_neg c10] at H
                  exact absurd H (by simp)
              · rw [if_neg c9] at H
                exact absurd H (by simp)
            · replace c8 := Bool.eq_false_iff.mpr c8
              subst c8
              have H1 : (none) = some r := by rw [if_neg (show ¬ (false = true) by decide)] at H; exact H
              clear H
              have H := H1
              clear H1
              exact absurd H (by simp)
          · rw [if_neg c6] at H
            have c6b0 : decide (400 < (wrap64 ((wrap64 (398 + (Go.bits .and .i64 a0 3))) + 1))) = false := decide_eq_false c6
            clear c6
            replace H := Option.bind_eq_some_iff.mp H
            obtain ⟨t274, A130, H⟩ := H
            replace H : (if t274 = true then (if t272 = 0 then (if t271 = true then (some (t270.toList == (x4_1 ++ (⟨#[121]⟩ : ByteArray)).toList)) else (none)) else (none)) else (none)) = some r := H
            have A13 := Aside0.mk A130
            clear A130
            by_cases c14 : t274 = true
            · subst c14
              have H1 : (if t272 = 0 then (if t271 = true then (some (t270.toList == (x4_1 ++ (⟨#[121]⟩ : ByteArray)).toList)) else (none)) else (none)) = some r := by rw [if_pos rfl] at H; exact H
              clear H
              have H := H1
              clear H1
              by_cases c15 : t272 = 0
              · rw [if_pos c15] at H
                have c15b0 : (t272 == 0) = true := beq_iff_eq.mpr c15
                have c15b1 : (t272 != 0) = false := bne_eq_false_iff_eq.mpr c15
                clear c15
                by_cases c16 : t271 = true
                · subst c16
                  have H1 : (some (t270.toList == (x4_1 ++ (⟨#[121]⟩ : ByteArray)).toList)) = some r := by rw [if_pos rfl] at H; exact H
                  clear H
                  have H := H1
                  clear H1
                  obtain rfl := Option.some.inj H
                  go_wp2_with (first | ((with_reducible refine gate_callee (f := 15) rfl ?_); refine goesL_ (some 24) rfl rfl Tryd.func15 (by kernel_rfl) rfl #[.string x4_1, .string (x4_1 ++ (⟨#[121]⟩ : ByteArray)), .string x4_1] rfl (by (try simp only [List.map_toArray, List.map_cons, List.map_nil]); first | done | rfl | (simp only [List.length_drop, List.length_take]; rfl)) ?_; (with_reducible refine (merge_Texts.calls k1 x4_1 (x4_1 ++ (⟨#[121]⟩ : ByteArray)) x4_1 t270 true t272 _ A5.out).mono ?_); rintro e w17 ⟨rfl, hb⟩; refine ⟨_, rfl, ?_⟩; have n0_ := Aside0.mk (below_step (by repeat (first | (with_reducible first | exact HB.out | apply below_alloc | apply pw_below_drewN | apply below_drew1) | exact HB.out)) hb); clear HB; have HB := n0_; clear n0_; (try clear hb); (try clear hb2); (try clear hk); (try clear hi)) | ((with_reducible refine gate_callee (f := 12) rfl ?_); refine goesL_ (some 44) rfl rfl Tryd.func12 (by kernel_rfl) rfl #[] rfl (by (try simp only [List.map_toArray, List.map_cons, List.map_nil]); first | done | rfl | (simp only [List.length_drop, List.length_take]; rfl)) ?_; (with_reducible refine (pollardlaw19_awake.calls k1  true _ A13.out).mono ?_); rintro e w18 ⟨rfl, hb⟩; refine ⟨_, rfl, ?_⟩; have n0_ := Aside0.mk (below_step (by repeat (first | (with_reducible first | exact HB.out | apply below_alloc | apply pw_below_drewN | apply below_drew1) | exact HB.out)) hb); clear HB; have HB := n0_; clear n0_; (try clear hb); (try clear hb2); (try clear hk); (try clear hi)))
                  go_ret
                  exact ⟨by first | rfl | (simp [errW_none, errW_some] <;> rfl) | (simp [*, errW_none, errW_some] <;> rfl), by repeat (first | (with_reducible first | exact HB.out | apply below_alloc | apply pw_below_drewN | apply below_drew1) | exact HB.out)⟩
                · replace c16 := Bool.eq_false_iff.mpr c16
                  subst c16
                  have H1 : (none) = some r := by rw [if_neg (show ¬ (false = true) by decide)] at H; exact H
                  clear H
                  have H := H1
                  clear H1
                  exact absurd H (by simp)
              · rw [if_neg c15] at H
                exact absurd H (by simp)
            · replace c14 := Bool.eq_false_iff.mpr c14
              subst c14
              have H1 : (none) = some r := by rw [if_neg (show ¬ (false = true) by decide)] at H; exact H
              clear H
              have H := H1
              clear H1
              exact absurd H (by simp)
        · rw [if_neg c4] at H
          exact absurd H (by simp)

/-- THE ONE PURE STATEMENT of pollardlaw19_MergeMuch: yours. -/
def pollardlaw19_MergeMuch.Pure : Prop := ∀ (a0 : Int), (Lit.int .i64 a0).wf = true → ∃ k, pollardlaw19_MergeMuch.f k a0 = some true
theorem pollardlaw19_MergeMuch.walk (P : pollardlaw19_MergeMuch.Pure) (a0 : Int) (w : World) (w0 : (Lit.int .i64 a0).wf = true) :
    Calls Tryd.prog 8 #[.int .i64 a0] w fun e w' => e = .returned (.bool true) ∧ Below w.heap.size w w' := by
  obtain ⟨k, h⟩ := P a0 w0
  refine (pollardlaw19_MergeMuch.calls k a0 true w h).mono ?_
  rintro e w' ⟨rfl, hd⟩
  exact ⟨rfl, hd⟩

-- NOT PRINTED: function 4 (pollardlaw19_MergeCovers)

end Go.Proofs.YtfkajhppdeidjaaDoor.M
