/- The program's functions as plain functions, and that each call comes to what these tell; written by a program of this session, some contracts by hand. Conditions: none. -/
import Derived.Test.YtnapcfpecpgdbaaMx0
import Derived.Test.YtnapcfpecpgdbaaMx1
import Derived.Test.YtnapcfpecpgdbaaMx2
import Derived.Test.YtnapcfpecpgdbaaMx4
import Derived.Test.YtnapcfpecpgdbaaMx5
namespace Go.Proofs.Ytnapcfpecpgdbaa.M
open Go.RowKit Go.Proofs.YtnapcfpecpgdbaaW.PrintWords Go.Proofs.YtnapcfpecpgdbaaW.PrintLast Go.Proofs.YtnapcfpecpgdbaaW.PrintMore
attribute [local go_sem] max2_int min2_int max_two min_two max_three min_three max_four min_four   -- for this text's walks alone
set_option linter.unusedVariables false
set_option linter.unusedSimpArgs false

/-! ### pollardref07_ID: function 14 -/
def pollardref07_ID.f (a0 : ByteArray) : Option (ByteArray) := (pollardref01_Sum.f a0).bind fun t139 => (some t139)
set_option maxHeartbeats 8000000 in
set_option maxRecDepth 100000 in
theorem pollardref07_ID.calls (a0 : ByteArray) (r : ByteArray) (w : World) (h : pollardref07_ID.f a0 = some r) :
    Calls Try.prog 14 #[.string a0] w fun e w' => e = .returned (.string r) ∧ Below w.heap.size w w' := by
  have HB := Aside0.mk (Below.refl w.heap.size w)
  have H : ((pollardref01_Sum.f a0).bind fun t139 => (some t139)) = some r := h
  clear h
  replace H := Option.bind_eq_some_iff.mp H
  obtain ⟨t139, A20, H⟩ := H
  replace H : (some t139) = some r := H
  have A2 := Aside0.mk A20
  clear A20
  obtain rfl := Option.some.inj H
  go_enter Try.func14, Try.ntmps14
  go_wp2_with (first | ((with_reducible refine gate_callee (f := 30) rfl ?_); refine goesL_ (some 4) rfl rfl Try.func30 (by kernel_rfl) rfl #[.string a0] rfl (by (try simp only [List.map_toArray, List.map_cons, List.map_nil]); first | done | rfl | (simp only [List.length_drop, List.length_take]; rfl)) ?_; (with_reducible refine (pollardref01_Sum.calls a0 t139 _ A2.out).mono ?_); rintro e w3 ⟨rfl, hb⟩; refine ⟨_, rfl, ?_⟩; have n0_ := Aside0.mk (below_step (by repeat (first | (with_reducible first | exact HB.out | apply below_alloc | apply pw_below_drewN | apply below_drew1) | exact HB.out)) hb); clear HB; have HB := n0_; clear n0_; (try clear hb); (try clear hb2); (try clear hk); (try clear hi)))
  go_ret
  exact ⟨by first | rfl | (simp [errW_none, errW_some] <;> rfl) | (simp [*, errW_none, errW_some] <;> rfl), by repeat (first | (with_reducible first | exact HB.out | apply below_alloc | apply pw_below_drewN | apply below_drew1) | exact HB.out)⟩

/-! ### pollardlaw07_ObjectRaws: function 3 -/
def pollardlaw07_ObjectRaws.j0 : Nat → Int → ByteArray → ByteArray → Int → Bool → Option (Bool)
  | 0, _, _, _, _, _ => none
  | k + 1, x0, x1, x5, x6, x22 => if x22 = true then ((pollardlaw07_awake.f k).bind fun t143 => (if t143 = true then (if x6 = 70 then (some (x5.toList == ([] : List UInt8))) else (none)) else (none))) else ((object_Open.f k x5).bind fun bt144 => ((pollardlaw07_awake.f k).bind fun t147 => (if t147 = true then (if x6 = 0 then ((pollardlaw07_few.f x1).bind fun t148 => ((pollardref07_Raw.f k x0 t148).bind fun t149 => (if x5.toList = t149.toList then ((object_ID.f x5).bind fun t150 => ((pollardref07_ID.f x5).bind fun t151 => (if t150.toList = t151.toList then (if bt144.2.2 = 0 then (if bt144.1 = x0 then (some (bt144.2.1.toList == t148.toList)) else (none)) else (none)) else (none)))) else (none)))) else (none)) else (none))))
def pollardlaw07_ObjectRaws.f (k : Nat) (a0 : Int) (a1 : ByteArray) : Option (Bool) := (pollardlaw07_few.f a1).bind fun t140 => ((object_Raw.f k a0 t140).bind fun bt141 => (if a0 < 1 then (pollardlaw07_ObjectRaws.j0 k a0 a1 bt141.1 bt141.2 true) else (pollardlaw07_ObjectRaws.j0 k a0 a1 bt141.1 bt141.2 (decide (a0 > 4)))))
theorem pollardlaw07_ObjectRaws.mono_l : ∀ k, (∀ y0 y1 y2 y3 y4, LeO (pollardlaw07_ObjectRaws.j0 k y0 y1 y2 y3 y4) (pollardlaw07_ObjectRaws.j0 (k + 1) y0 y1 y2 y3 y4))
  | 0 => fun _ _ _ _ _ r h => by simp [pollardlaw07_ObjectRaws.j0] at h
  | k + 1 => by
    have ih0 := pollardlaw07_ObjectRaws.mono_l k
    · intro y0 y1 y2 y3 y4
      unfold pollardlaw07_ObjectRaws.j0
      repeat' first
      | (with_reducible exact ih0 _ _ _ _ _)
      | (with_reducible exact object_Open.mono _ _)
      | (with_reducible exact object_Raw.mono _ _ _)
      | (with_reducible exact pollardlaw07_awake.mono _)
      | (with_reducible exact pollardref07_Raw.mono _ _ _)
      | (with_reducible exact LeO.refl _)
      | (with_reducible exact LeO.none _)
      | (with_reducible refine LeO.ite ?_ ?_)
      | (with_reducible refine LeO.bind ?_ (fun _ => ?_))
      | exact ih0 _ _ _ _ _
      | exact object_Open.mono _ _
      | exact object_Raw.mono _ _ _
      | exact pollardlaw07_awake.mono _
      | exact pollardref07_Raw.mono _ _ _
      | exact LeO.none _
      | refine LeO.ite ?_ ?_
      | refine LeO.bind ?_ (fun _ => ?_)
theorem pollardlaw07_ObjectRaws.mono : ∀ a0 a1 k, LeO (pollardlaw07_ObjectRaws.f k a0 a1) (pollardlaw07_ObjectRaws.f (k + 1) a0 a1) := by
  intro a0 a1 k
  have ih0 := pollardlaw07_ObjectRaws.mono_l k
  unfold pollardlaw07_ObjectRaws.f
  repeat' first
      | (with_reducible exact ih0 _ _ _ _ _)
      | (with_reducible exact object_Open.mono _ _)
      | (with_reducible exact object_Raw.mono _ _ _)
      | (with_reducible exact pollardlaw07_awake.mono _)
      | (with_reducible exact pollardref07_Raw.mono _ _ _)
      | (with_reducible exact LeO.refl _)
      | (with_reducible exact LeO.none _)
      | (with_reducible refine LeO.ite ?_ ?_)
      | (with_reducible refine LeO.bind ?_ (fun _ => ?_))
      | exact ih0 _ _ _ _ _
      | exact object_Open.mono _ _
      | exact object_Raw.mono _ _ _
      | exact pollardlaw07_awake.mono _
      | exact pollardref07_Raw.mono _ _ _
      | exact LeO.none _
      | refine LeO.ite ?_ ?_
      | refine LeO.bind ?_ (fun _ => ?_)
set_option maxHeartbeats 8000000 in
set_option maxRecDepth 100000 in
theorem pollardlaw07_ObjectRaws.calls (k : Nat) (a0 : Int) (a1 : ByteArray) (r : Bool) (w : World) (h : pollardlaw07_ObjectRaws.f k a0 a1 = some r) :
    Calls Try.prog 3 #[.int .i64 a0, .string a1] w fun e w' => e = .returned (.bool r) ∧ Below w.heap.size w w' := by
  have HB := Aside0.mk (Below.refl w.heap.size w)
  have H : ((pollardlaw07_few.f a1).bind fun t140 => ((object_Raw.f k a0 t140).bind fun bt141 => (if a0 < 1 then (pollardlaw07_ObjectRaws.j0 k a0 a1 bt141.1 bt141.2 true) else (pollardlaw07_ObjectRaws.j0 k a0 a1 bt141.1 bt141.2 (decide (a0 > 4)))))) = some r := h
  clear h
  replace H := Option.bind_eq_some_iff.mp H
  obtain ⟨t140, A30, H⟩ := H
  replace H : ((object_Raw.f k a0 t140).bind fun bt141 => (if a0 < 1 then (pollardlaw07_ObjectRaws.j0 k a0 a1 bt141.1 bt141.2 true) else (pollardlaw07_ObjectRaws.j0 k a0 a1 bt141.1 bt141.2 (decide (a0 > 4))))) = some r := H
  have A3 := Aside0.mk A30
  clear A30
  replace H := Option.bind_eq_some_iff.mp H
  obtain ⟨⟨t141, t142⟩, A40, H⟩ := H
  replace H : (if a0 < 1 then (pollardlaw07_ObjectRaws.j0 k a0 a1 t141 t142 true) else (pollardlaw07_ObjectRaws.j0 k a0 a1 t141 t142 (decide (a0 > 4)))) = some r := H
  have A4 := Aside0.mk A40
  clear A40
  have HC5 := Aside0.mk H
  clear H
  go_enter Try.func3, Try.ntmps3
  go_upto_region 2 with (first | ((with_reducible refine gate_callee (f := 9) rfl ?_); refine goesL_ (some 13) rfl rfl Try.func9 (by kernel_rfl) rfl #[.string a1] rfl (by (try simp only [List.map_toArray, List.map_cons, List.map_nil]); first | done | rfl | (simp only [List.length_drop, List.length_take]; rfl)) ?_; (with_reducible refine (pollardlaw07_few.calls a1 t140 _ A3.out).mono ?_); rintro e w' ⟨rfl, ⟨nd, rfl⟩⟩; refine ⟨_, rfl, ?_⟩) | ((with_reducible refine gate_callee (f := 8) rfl ?_); refine goesL_ (some 14) rfl rfl Try.func8 (by kernel_rfl) rfl #[.int .i64 a0, .string t140] rfl (by (try simp only [List.map_toArray, List.map_cons, List.map_nil]); first | done | rfl | (simp only [List.length_drop, List.length_take]; rfl)) ?_; (with_reducible refine (object_Raw.calls k a0 t140 t141 t142 _ A4.out).mono ?_); rintro e w6 ⟨rfl, hb⟩; refine ⟨_, rfl, ?_⟩; have n0_ := Aside0.mk (below_step (by repeat (first | (with_reducible first | exact HB.out | apply below_alloc | apply pw_below_drewN | apply below_drew1) | exact HB.out)) hb); clear HB; have HB := n0_; clear n0_; (try clear hb); (try clear hb2); (try clear hk); (try clear hi)))
  (try simp only [Act.put, List.setIfInBounds_toArray, List.set_cons_zero, List.set_cons_succ])
  go_cut [22] (fun v22 wc => ∃ (kq : Nat) (x22_4 : Bool), v22 = .bool x22_4 ∧ Aside0 (pollardlaw07_ObjectRaws.j0 kq a0 a1 t141 t142 x22_4 = some r) ∧ Aside0 (kq ≤ k) ∧ Aside0 (Below w.heap.size w wc))
  case first =>
    have H := HC5.out
    clear HC5
    by_cases c7 : a0 < 1
    · rw [if_pos c7] at H
      have c7b0 : decide (a0 < 1) = true := decide_eq_true c7
      clear c7
      (first | rw [c7b0] | (simp only [i64_w, i32_w]; rw [c7b0]) | skip)
      have H' := Aside0.mk H
      clear H
      go_wp2
      go_meet
      case rel => exact ⟨_, (true), (by first | rfl | (simp; done) | (simp [*]; done)), H', ⟨by first | omega | exact Nat.le_refl _⟩, ⟨by repeat (first | (with_reducible first | exact HB.out | apply below_alloc | apply pw_below_drewN | apply below_drew1) | exact HB.out)⟩⟩
    · rw [if_neg c7] at H
      have c7b0 : decide (a0 < 1) = false := decide_eq_false c7
      clear c7
      (first | rw [c7b0] | (simp only [i64_w, i32_w]; rw [c7b0]) | skip)
      have H' := Aside0.mk H
      clear H
      go_wp2
      go_meet
      case rel => exact ⟨_, (decide (a0 > 4)), (by first | rfl | (simp; done) | (simp [*]; done)), H', ⟨by first | omega | exact Nat.le_refl _⟩, ⟨by repeat (first | (with_reducible first | exact HB.out | apply below_alloc | apply pw_below_drewN | apply below_drew1) | exact HB.out)⟩⟩
  case rest =>
    clear HC5
    try clear p2
    try clear c3
    try clear c7
    try clear c7b0
    obtain ⟨kq, x22_4, rfl, HA, HJ4, HB⟩ := hcut
    cases kq with
    | zero => exact absurd HA.out (by simp [pollardlaw07_ObjectRaws.j0])
    | succ kj4 =>
      have H := HA.out
      clear HA
      simp only [pollardlaw07_ObjectRaws.j0] at H
      by_cases c8 : x22_4 = true
      · subst c8
        have H1 : ((pollardlaw07_awake.f kj4).bind fun t143 => (if t143 = true then (if t142 = 70 then (some (t141.toList == ([] : List UInt8))) else (none)) else (none))) = some r := by rw [if_pos rfl] at H; exact H
        clear H
        have H := H1
        clear H1
        replace H := Option.bind_eq_some_iff.mp H
        obtain ⟨t143, A90, H⟩ := H
        replace H : (if t143 = true then (if t142 = 70 then (some (t141.toList == ([] : List UInt8))) else (none)) else (none)) = some r := H
        have A9 := Aside0.mk A90
        clear A90
        by_cases c10 : t143 = true
        · subst c10
          have H1 : (if t142 = 70 then (some (t141.toList == ([] : List UInt8))) else (none)) = some r := by rw [if_pos rfl] at H; exact H
          clear H
          have H := H1
          clear H1
          by_cases c11 : t142 = 70
          · rw [if_pos c11] at H
            have c11b0 : (t142 == 70) = true := beq_iff_eq.mpr c11
            have c11b1 : (t142 != 70) = false := bne_eq_false_iff_eq.mpr c11
            clear c11
            obtain rfl := Option.some.inj H
            go_wp2_with (first | ((with_reducible refine gate_callee (f := 10) rfl ?_); refine goesL_ (some 23) rfl rfl Try.func10 (by kernel_rfl) rfl #[] rfl (by (try simp only [List.map_toArray, List.map_cons, List.map_nil]); first | done | rfl | (simp only [List.length_drop, List.length_take]; rfl)) ?_; (with_reducible refine (pollardlaw07_awake.calls kj4  true _ A9.out).mono ?_); rintro e w12 ⟨rfl, hb⟩; refine ⟨_, rfl, ?_⟩; have n0_ := Aside0.mk (below_step (by repeat (first | (with_reducible first | exact HB.out | apply below_alloc | apply pw_below_drewN | apply below_drew1) | exact HB.out)) hb); clear HB; have HB := n0_; clear n0_; (try clear hb); (try clear hb2); (try clear hk); (try clear hi)))
            go_ret
            exact ⟨by first | rfl | (simp [errW_none, errW_some] <;> rfl) | (simp [*, errW_none, errW_some] <;> rfl), by repeat (first | (with_reducible first | exact HB.out | apply below_alloc | apply pw_below_drewN | apply below_drew1) | exact HB.out)⟩
          · rw [if_neg c11] at H
            exact absurd H (by simp)
        · replace c10 := Bool.eq_false_iff.mpr c10
          subst c10
          have H1 : (none) = some r := by rw [if_neg (show ¬ (false = true) by decide)] at H; exact H
          clear H
          have H := H1
          clear H1
          exact absurd H (by simp)
      · replace c8 := Bool.eq_false_iff.mpr c8
        subst c8
        have H1 : ((object_Open.f kj4 t141).bind fun bt144 => ((pollardlaw07_awake.f kj4).bind fun t147 => (if t147 = true then (if t142 = 0 then ((pollardlaw07_few.f a1).bind fun t148 => ((pollardref07_Raw.f kj4 a0 t148).bind fun t149 => (if t141.toList = t149.toList then ((object_ID.f t141).bind fun t150 => ((pollardref07_ID.f t141).bind fun t151 => (if t150.toList = t151.toList then (if bt144.2.2 = 0 then (if bt144.1 = a0 then (some (bt144.2.1.toList == t148.toList)) else (none)) else (none)) else (none)))) else (none)))) else (none)) else (none)))) = some r := by rw [if_neg (show ¬ (false = true) by decide)] at H; exact H
        clear H
        have H := H1
        clear H1
        replace H := Option.bind_eq_some_iff.mp H
        obtain ⟨⟨t144, t145, t146⟩, A130, H⟩ := H
        replace H : ((pollardlaw07_awake.f kj4).bind fun t147 => (if t147 = true then (if t142 = 0 then ((pollardlaw07_few.f a1).bind fun t148 => ((pollardref07_Raw.f kj4 a0 t148).bind fun t149 => (if t141.toList = t149.toList then ((object_ID.f t141).bind fun t150 => ((pollardref07_ID.f t141).bind fun t151 => (if t150.toList = t151.toList then (if t146 = 0 then (if t144 = a0 then (some (t145.toList == t148.toList)) else (none)) else (none)) else (none)))) else (none)))) else (none)) else (none))) = some r := H
        have A13 := Aside0.mk A130
        clear A130
        replace H := Option.bind_eq_some_iff.mp H
        obtain ⟨t147, A140, H⟩ := H
        replace H : (if t147 = true then (if t142 = 0 then ((pollardlaw07_few.f a1).bind fun t148 => ((pollardref07_Raw.f kj4 a0 t148).bind fun t149 => (if t141.toList = t149.toList then ((object_ID.f t141).bind fun t150 => ((pollardref07_ID.f t141).bind fun t151 => (if t150.toList = t151.toList then (if t146 = 0 then (if t144 = a0 then (some (t145.toList == t148.toList)) else (none)) else (none)) else (none)))) else (none)))) else (none)) else (none)) = some r := H
        have A14 := Aside0.mk A140
        clear A140
        by_cases c15 : t147 = true
        · subst c15
          have H1 : (if t142 = 0 then ((pollardlaw07_few.f a1).bind fun t148 => ((pollardref07_Raw.f kj4 a0 t148).bind fun t149 => (if t141.toList = t149.toList then ((object_ID.f t141).bind fun t150 => ((pollardref07_ID.f t141).bind fun t151 => (if t150.toList = t151.toList then (if t146 = 0 then (if t144 = a0 then (some (t145.toList == t148.toList)) else (none)) else (none)) else (none)))) else (none)))) else (none)) = some r := by rw [if_pos rfl] at H; exact H
          clear H
          have H := H1
          clear H1
          by_cases c16 : t142 = 0
          · rw [if_pos c16] at H
            have c16b0 : (t142 == 0) = true := beq_iff_eq.mpr c16
            have c16b1 : (t142 != 0) = false := bne_eq_false_iff_eq.mpr c16
            clear c16
            replace H := Option.bind_eq_some_iff.mp H
            obtain ⟨t148, A170, H⟩ := H
            replace H : ((pollardref07_Raw.f kj4 a0 t148).bind fun t149 => (if t141.toList = t149.toList then ((object_ID.f t141).bind fun t150 => ((pollardref07_ID.f t141).bind fun t151 => (if t150.toList = t151.toList then (if t146 = 0 then (if t144 = a0 then (some (t145.toList == t148.toList)) else (none)) else (none)) else (none)))) else (none))) = some r := H
            have A17 := Aside0.mk A170
            clear A170
            replace H := Option.bind_eq_some_iff.mp H
            obtain ⟨t149, A180, H⟩ := H
            replace H : (if t141.toList = t149.toList then ((object_ID.f t141).bind fun t150 => ((pollardref07_ID.f t141).bind fun t151 => (if t150.toList = t151.toList then (if t146 = 0 then (if t144 = a0 then (some (t145.toList == t148.toList)) else (none)) else (none)) else (none)))) else (none)) = some r := H
            have A18 := Aside0.mk A180
            clear A180
            by_cases c19 : t141.toList = t149.toList
            · rw [if_pos c19] at H
              have c19b0 : (t141.toList == t149.toList) = true := beq_iff_eq.mpr c19
              have c19b1 : (t141.toList != t149.toList) = false := bne_eq_false_iff_eq.mpr c19
              clear c19
              replace H := Option.bind_eq_some_iff.mp H
              obtain ⟨t150, A200, H⟩ := H
              replace H : ((pollardref07_ID.f t141).bind fun t151 => (if t150.toList = t151.toList then (if t146 = 0 then (if t144 = a0 then (some (t145.toList == t148.toList)) else (none)) else (none)) else (none))) = some r := H
              have A20 := Aside0.mk A200
              clear A200
              replace H := Option.bind_eq_some_iff.mp H
              obtain ⟨t151, A210, H⟩ := H
              replace H : (if t150.toList = t151.toList then (if t146 = 0 then (if t144 = a0 then (some (t145.toList == t148.toList)) else (none)) else (none)) else (none)) = some r := H
              have A21 := Aside0.mk A210
              clear A210
              by_cases c22 : t150.toList = t151.toList
              · rw [if_pos c22] at H
                have c22b0 : (t150.toList == t151.toList) = true := beq_iff_eq.mpr c22
                have c22b1 : (t150.toList != t151.toList) = false := bne_eq_false_iff_eq.mpr c22
                clear c22
                by_cases c23 : t146 = 0
                · rw [if_pos c23] at H
                  have c23b0 : (t146 == 0) = true := beq_iff_eq.mpr c23
                  have c23b1 : (t146 != 0) = false := bne_eq_false_iff_eq.mpr c23
                  clear c23
                  by_cases c24 : t144 = a0
                  · rw [if_pos c24] at H
                    have c24b0 : (t144 == a0) = true := beq_iff_eq.mpr c24
                    have c24b1 : (t144 != a0) = false := bne_eq_false_iff_eq.mpr c24
                    clear c24
                    obtain rfl := Option.some.inj H
                    go_wp2_with (first | ((with_reducible refine gate_callee (f := 11) rfl ?_); refine goesL_ (some 34) rfl rfl Try.func11 (by kernel_rfl) rfl #[.string t141] rfl (by (try simp only [List.map_toArray, List.map_cons, List.map_nil]); first | done | rfl | (simp only [List.length_drop, List.length_take]; rfl)) ?_; (with_reducible refine (object_Open.calls kj4 t141 t144 t145 t146 _ A13.out).mono ?_); rintro e w25 ⟨rfl, hb⟩; refine ⟨_, rfl, ?_⟩; have n0_ := Aside0.mk (below_step (by repeat (first | (with_reducible first | exact HB.out | apply below_alloc | apply pw_below_drewN | apply below_drew1) | exact HB.out)) hb); clear HB; have HB := n0_; clear n0_; (try clear hb); (try clear hb2); (try clear hk); (try clear hi)) | ((with_reducible refine gate_callee (f := 10) rfl ?_); refine goesL_ (some 38) rfl rfl Try.func10 (by kernel_rfl) rfl #[] rfl (by (try simp only [List.map_toArray, List.map_cons, List.map_nil]); first | done | rfl | (simp only [List.length_drop, List.length_take]; rfl)) ?_; (with_reducible refine (pollardlaw07_awake.calls kj4  true _ A14.out).mono ?_); rintro e w26 ⟨rfl, hb⟩; refine ⟨_, rfl, ?_⟩; have n0_ := Aside0.mk (below_step (by repeat (first | (with_reducible first | exact HB.out | apply below_alloc | apply pw_below_drewN | apply below_drew1) | exact HB.out)) hb); clear HB; have HB := n0_; clear n0_; (try clear hb); (try clear hb2); (try clear hk); (try clear hi)) | (go_at_call 9; (with_reducible refine (pollardlaw07_few.calls a1 t148 _ A17.out).mono ?_); rintro e w' ⟨rfl, ⟨nd, rfl⟩⟩) | (go_at_call 12; (with_reducible refine (pollardref07_Raw.calls kj4 a0 t148 t149 _ A18.out).mono ?_); rintro e w27 ⟨rfl, hb⟩; have n0_ := Aside0.mk (below_step (by repeat (first | (with_reducible first | exact HB.out | apply below_alloc | apply pw_below_drewN | apply below_drew1) | exact HB.out)) hb); clear HB; have HB := n0_; clear n0_; (try clear hb); (try clear hb2); (try clear hk); (try clear hi)) | (go_at_call 13; (with_reducible refine (object_ID.calls t141 t150 _ A20.out).mono ?_); rintro e w28 ⟨rfl, hb⟩; have n0_ := Aside0.mk (below_step (by repeat (first | (with_reducible first | exact HB.out | apply below_alloc | apply pw_below_drewN | apply below_drew1) | exact HB.out)) hb); clear HB; have HB := n0_; clear n0_; (try clear hb); (try clear hb2); (try clear hk); (try clear hi)) | (go_at_call 14; (with_reducible refine (pollardref07_ID.calls t141 t151 _ A21.out).mono ?_); rintro e w29 ⟨rfl, hb⟩; have n0_ := Aside0.mk (below_step (by repeat (first | (with_reducible first | exact HB.out | apply below_alloc | apply pw_below_drewN | apply below_drew1) | exact HB.out)) hb); clear HB; have HB := n0_; clear n0_; (try clear hb); (try clear hb2); (try clear hk); (try clear hi)) | (go_at_call 9; (with_reducible refine (pollardlaw07_few.calls a1 t148 _ A17.out).mono ?_); rintro e w' ⟨rfl, ⟨nd, rfl⟩⟩))
                    go_ret
                    exact ⟨by first | rfl | (simp [errW_none, errW_some] <;> rfl) | (simp [*, errW_none, errW_some] <;> rfl), by repeat (first | (with_reducible first | exact HB.out | apply below_alloc | apply pw_below_drewN | apply below_drew1) | exact HB.out)⟩
                  · rw [if_neg c24] at H
                    exact absurd H (by simp)
                · rw [if_neg c23] at H
                  exact absurd H (by simp)
              · rw [if_neg c22] at H
                exact absurd H (by simp)
            · rw [if_neg c19] at H
              exact absurd H (by simp)
          · rw [if_neg c16] at H
            exact absurd H (by simp)
        · replace c15 := Bool.eq_false_iff.mpr c15
          subst c15
          have H1 : (none) = some r := by rw [if_neg (show ¬ (false = true) by decide)] at H; exact H
          clear H
          have H := H1
          clear H1
          exact absurd H (by simp)

/-- THE ONE PURE STATEMENT of pollardlaw07_ObjectRaws: yours. -/
def pollardlaw07_ObjectRaws.Pure : Prop := ∀ (a0 : Int) (a1 : ByteArray), (Lit.int .i64 a0).wf = true → a1.size ≤ 140737488351232 → ∃ k, pollardlaw07_ObjectRaws.f k a0 a1 = some true
theorem pollardlaw07_ObjectRaws.walk (P : pollardlaw07_ObjectRaws.Pure) (a0 : Int) (a1 : ByteArray) (w : World) (w0 : (Lit.int .i64 a0).wf = true) (w1 : a1.size ≤ 140737488351232) :
    Calls Try.prog 3 #[.int .i64 a0, .string a1] w fun e w' => e = .returned (.bool true) ∧ Below w.heap.size w w' := by
  obtain ⟨k, h⟩ := P a0 a1 w0 w1
  refine (pollardlaw07_ObjectRaws.calls k a0 a1 true w h).mono ?_
  rintro e w' ⟨rfl, hd⟩
  exact ⟨rfl, hd⟩

end Go.Proofs.Ytnapcfpecpgdbaa.M
