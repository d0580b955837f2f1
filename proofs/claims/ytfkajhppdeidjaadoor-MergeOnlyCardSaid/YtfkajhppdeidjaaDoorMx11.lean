/- The program's functions as plain functions, and that each call comes to what these tell; written by a program of this session, some contracts by hand. Conditions: none. -/
import Derived.Test.YtfkajhppdeidjaaDoorMx0
import Derived.Test.YtfkajhppdeidjaaDoorMx7
import Derived.Test.YtfkajhppdeidjaaDoorMx8
import Derived.Test.YtfkajhppdeidjaaDoorMx9
namespace Go.Proofs.YtfkajhppdeidjaaDoor.M
open Go.RowKit Go.Proofs.YtfkajhppdeidjaaDoorW.PrintWords Go.Proofs.YtfkajhppdeidjaaDoorW.PrintLast Go.Proofs.YtfkajhppdeidjaaDoorW.PrintMore
attribute [local go_sem] max2_int min2_int max_two min_two max_three min_three max_four min_four   -- for this text's walks alone
set_option linter.unusedVariables false
set_option linter.unusedSimpArgs false

/-! ### pollardlaw19_MergeOnly: function 7 -/
def pollardlaw19_MergeOnly.f (k : Nat) (l0 : List ByteArray) (l1 : List ByteArray) : Option (Bool) := (pollardlaw19_text.f k l0).bind fun t258 => ((pollardlaw19_text.f k l1).bind fun t259 => ((merge_Texts.f k t258 t259 t258).bind fun bt260 => ((merge_Texts.f k t258 t258 t259).bind fun bt263 => ((merge_Texts.f k t258 t259 t259).bind fun bt266 => ((pollardlaw19_awake.f k).bind fun t269 => (if t269 = true then (if bt260.2.2 = 0 then (if bt263.2.2 = 0 then (if bt266.2.2 = 0 then (if bt260.2.1 = true then (if bt263.2.1 = true then (if bt266.2.1 = true then (if bt260.1.toList = t259.toList then (if bt263.1.toList = t259.toList then (some (bt266.1.toList == t259.toList)) else (none)) else (none)) else (none)) else (none)) else (none)) else (none)) else (none)) else (none)) else (none)))))))
theorem pollardlaw19_MergeOnly.mono : ∀ a0 a1 k, LeO (pollardlaw19_MergeOnly.f k a0 a1) (pollardlaw19_MergeOnly.f (k + 1) a0 a1) := by
  intro a0 a1 k
  unfold pollardlaw19_MergeOnly.f
  repeat' first
      | (with_reducible exact merge_Texts.mono _ _ _ _)
      | (with_reducible exact pollardlaw19_awake.mono _)
      | (with_reducible exact pollardlaw19_text.mono _ _)
      | (with_reducible exact LeO.refl _)
      | (with_reducible exact LeO.none _)
      | (with_reducible refine LeO.ite ?_ ?_)
      | (with_reducible refine LeO.bind ?_ (fun _ => ?_))
      | exact merge_Texts.mono _ _ _ _
      | exact pollardlaw19_awake.mono _
      | exact pollardlaw19_text.mono _ _
      | exact LeO.none _
      | refine LeO.ite ?_ ?_
      | refine LeO.bind ?_ (fun _ => ?_)
set_option maxHeartbeats 8000000 in
set_option maxRecDepth 100000 in
theorem pollardlaw19_MergeOnly.calls (k : Nat) (A0 : Option Addr) (c0 : Nat) (l0 : List ByteArray) (A1 : Option Addr) (c1 : Nat) (l1 : List ByteArray) (r : Bool) (w : World) (hr0 : Kd.C Kd.string w A0 l0.length l0) (hc0 : l0.length ≤ c0) (hr1 : Kd.C Kd.string w A1 l1.length l1) (hc1 : l1.length ≤ c1) (h : pollardlaw19_MergeOnly.f k l0 l1 = some r) :
    Calls Tryd.prog 7 #[.slice A0 l0.length c0, .slice A1 l1.length c1] w fun e w' => e = .returned (.bool r) ∧ Below w.heap.size w w' := by
  have HR0 := Aside0.mk hr0
  have HC0 := Aside0.mk hc0
  clear hr0 hc0
  have HR1 := Aside0.mk hr1
  have HC1 := Aside0.mk hc1
  clear hr1 hc1
  have HB := Aside0.mk (Below.refl w.heap.size w)
  have H : ((pollardlaw19_text.f k l0).bind fun t258 => ((pollardlaw19_text.f k l1).bind fun t259 => ((merge_Texts.f k t258 t259 t258).bind fun bt260 => ((merge_Texts.f k t258 t258 t259).bind fun bt263 => ((merge_Texts.f k t258 t259 t259).bind fun bt266 => ((pollardlaw19_awake.f k).bind fun t269 => (if t269 = true then (if bt260.2.2 = 0 then (if bt263.2.2 = 0 then (if bt266.2.2 = 0 then (if bt260.2.1 = true then (if bt263.2.1 = true then (if bt266.2.1 = true then (if bt260.1.toList = t259.toList then (if bt263.1.toList = t259.toList then (some (bt266.1.toList == t259.toList)) else (none)) else (none)) else (none)) else (none)) else (none)) else (none)) else (none)) else (none)) else (none)))))))) = some r := h
  clear h
  replace H := Option.bind_eq_some_iff.mp H
  obtain ⟨t258, A30, H⟩ := H
  replace H : ((pollardlaw19_text.f k l1).bind fun t259 => ((merge_Texts.f k t258 t259 t258).bind fun bt260 => ((merge_Texts.f k t258 t258 t259).bind fun bt263 => ((merge_Texts.f k t258 t259 t259).bind fun bt266 => ((pollardlaw19_awake.f k).bind fun t269 => (if t269 = true then (if bt260.2.2 = 0 then (if bt263.2.2 = 0 then (if bt266.2.2 = 0 then (if bt260.2.1 = true then (if bt263.2.1 = true then (if bt266.2.1 = true then (if bt260.1.toList = t259.toList then (if bt263.1.toList = t259.toList then (some (bt266.1.toList == t259.toList)) else (none)) else (none)) else (none)) else (none)) else (none)) else (none)) else (none)) else (none)) else (none))))))) = some r := H
  have A3 := Aside0.mk A30
  clear A30
  replace H := Option.bind_eq_some_iff.mp H
  obtain ⟨t259, A40, H⟩ := H
  replace H : ((merge_Texts.f k t258 t259 t258).bind fun bt260 => ((merge_Texts.f k t258 t258 t259).bind fun bt263 => ((merge_Texts.f k t258 t259 t259).bind fun bt266 => ((pollardlaw19_awake.f k).bind fun t269 => (if t269 = true then (if bt260.2.2 = 0 then (if bt263.2.2 = 0 then (if bt266.2.2 = 0 then (if bt260.2.1 = true then (if bt263.2.1 = true then (if bt266.2.1 = true then (if bt260.1.toList = t259.toList then (if bt263.1.toList = t259.toList then (some (bt266.1.toList == t259.toList)) else (none)) else (none)) else (none)) else (none)) else (none)) else (none)) else (none)) else (none)) else (none)))))) = some r := H
  have A4 := Aside0.mk A40
  clear A40
  replace H := Option.bind_eq_some_iff.mp H
  obtain ⟨⟨t260, t261, t262⟩, A50, H⟩ := H
  replace H : ((merge_Texts.f k t258 t258 t259).bind fun bt263 => ((merge_Texts.f k t258 t259 t259).bind fun bt266 => ((pollardlaw19_awake.f k).bind fun t269 => (if t269 = true then (if t262 = 0 then (if bt263.2.2 = 0 then (if bt266.2.2 = 0 then (if t261 = true then (if bt263.2.1 = true then (if bt266.2.1 = true then (if t260.toList = t259.toList then (if bt263.1.toList = t259.toList then (some (bt266.1.toList == t259.toList)) else (none)) else (none)) else (none)) else (none)) else (none)) else (none)) else (none)) else (none)) else (none))))) = some r := H
  have A5 := Aside0.mk A50
  clear A50
  replace H := Option.bind_eq_some_iff.mp H
  obtain ⟨⟨t263, t264, t265⟩, A60, H⟩ := H
  replace H : ((merge_Texts.f k t258 t259 t259).bind fun bt266 => ((pollardlaw19_awake.f k).bind fun t269 => (if t269 = true then (if t262 = 0 then (if t265 = 0 then (if bt266.2.2 = 0 then (if t261 = true then (if t264 = true then (if bt266.2.1 = true then (if t260.toList = t259.toList then (if t263.toList = t259.toList then (some (bt266.1.toList == t259.toList)) else (none)) else (none)) else (none)) else (none)) else (none)) else (none)) else (none)) else (none)) else (none)))) = some r := H
  have A6 := Aside0.mk A60
  clear A60
  replace H := Option.bind_eq_some_iff.mp H
  obtain ⟨⟨t266, t267, t268⟩, A70, H⟩ := H
  replace H : ((pollardlaw19_awake.f k).bind fun t269 => (if t269 = true then (if t262 = 0 then (if t265 = 0 then (if t268 = 0 then (if t261 = true then (if t264 = true then (if t267 = true then (if t260.toList = t259.toList then (if t263.toList = t259.toList then (some (t266.toList == t259.toList)) else (none)) else (none)) else (none)) else (none)) else (none)) else (none)) else (none)) else (none)) else (none))) = some r := H
  have A7 := Aside0.mk A70
  clear A70
  replace H := Option.bind_eq_some_iff.mp H
  obtain ⟨t269, A80, H⟩ := H
  replace H : (if t269 = true then (if t262 = 0 then (if t265 = 0 then (if t268 = 0 then (if t261 = true then (if t264 = true then (if t267 = true then (if t260.toList = t259.toList then (if t263.toList = t259.toList then (some (t266.toList == t259.toList)) else (none)) else (none)) else (none)) else (none)) else (none)) else (none)) else (none)) else (none)) else (none)) = some r := H
  have A8 := Aside0.mk A80
  clear A80
  by_cases c9 : t269 = true
  · subst c9
    have H1 : (if t262 = 0 then (if t265 = 0 then (if t268 = 0 then (if t261 = true then (if t264 = true then (if t267 = true then (if t260.toList = t259.toList then (if t263.toList = t259.toList then (some (t266.toList == t259.toList)) else (none)) else (none)) else (none)) else (none)) else (none)) else (none)) else (none)) else (none)) = some r := by rw [if_pos rfl] at H; exact H
    clear H
    have H := H1
    clear H1
    by_cases c10 : t262 = 0
    · rw [if_pos c10] at H
      have c10b0 : (t262 == 0) = true := beq_iff_eq.mpr c10
      have c10b1 : (t262 != 0) = false := bne_eq_false_iff_eq.mpr c10
      clear c10
      by_cases c11 : t265 = 0
      · rw [if_pos c11] at H
        have c11b0 : (t265 == 0) = true := beq_iff_eq.mpr c11
        have c11b1 : (t265 != 0) = false := bne_eq_false_iff_eq.mpr c11
        clear c11
        by_cases c12 : t268 = 0
        · rw [if_pos c12] at H
          have c12b0 : (t268 == 0) = true := beq_iff_eq.mpr c12
          have c12b1 : (t268 != 0) = false := bne_eq_false_iff_eq.mpr c12
          clear c12
          by_cases c13 : t261 = true
          · subst c13
            have H1 : (if t264 = true then (if t267 = true then (if t260.toList = t259.toList then (if t263.toList = t259.toList then (some (t266.toList == t259.toList)) else (none)) else (none)) else (none)) else (none)) = some r := by rw [if_pos rfl] at H; exact H
            clear H
            have H := H1
            clear H1
            by_cases c14 : t264 = true
            · subst c14
              have H1 : (if t267 = true then (if t260.toList = t259.toList then (if t263.toList = t259.toList then (some (t266.toList == t259.toList)) else (none)) else (none)) else (none)) = some r := by rw [if_pos rfl] at H; exact H
              clear H
              have H := H1
              clear H1
              by_cases c15 : t267 = true
              · subst c15
                have H1 : (if t260.toList = t259.toList then (if t263.toList = t259.toList then (some (t266.toList == t259.toList)) else (none)) else (none)) = some r := by rw [if_pos rfl] at H; exact H
                clear H
                have H := H1
                clear H1
                by_cases c16 : t260.toList = t259.toList
                · rw [if_pos c16] at H
                  have c16b0 : (t260.toList == t259.toList) = true := beq_iff_eq.mpr c16
                  have c16b1 : (t260.toList != t259.toList) = false := bne_eq_false_iff_eq.mpr c16
                  clear c16
                  by_cases c17 : t263.toList = t259.toList
                  · rw [if_pos c17] at H
                    have c17b0 : (t263.toList == t259.toList) = true := beq_iff_eq.mpr c17
                    have c17b1 : (t263.toList != t259.toList) = false := bne_eq_false_iff_eq.mpr c17
                    clear c17
                    obtain rfl := Option.some.inj H
                    go_enter Tryd.func7, Tryd.ntmps7
                    go_wp2_with (first | ((with_reducible refine gate_callee (f := 14) rfl ?_); refine goesL_ (some 17) rfl rfl Tryd.func14 (by kernel_rfl) rfl #[.slice A0 l0.length c0] rfl (by (try simp only [List.map_toArray, List.map_cons, List.map_nil]); first | done | rfl | (simp only [List.length_drop, List.length_take]; rfl)) ?_; (with_reducible refine (pollardlaw19_text.calls k _ _ l0 t258 _ ?side1 ?side2 A3.out).mono ?_); (case side1 => repeat (first | exact HR0.out | (with_reducible refine Kd.C_alloc ?_ _) | (with_reducible refine Kd.C_drewN ?_ _) | (with_reducible refine Kd.C_drew ?_))); (case side2 => exact HC0.out); rintro e w' ⟨rfl, ⟨nd, rfl⟩⟩; refine ⟨_, rfl, ?_⟩) | ((with_reducible refine gate_callee (f := 14) rfl ?_); refine goesL_ (some 19) rfl rfl Tryd.func14 (by kernel_rfl) rfl #[.slice A1 l1.length c1] rfl (by (try simp only [List.map_toArray, List.map_cons, List.map_nil]); first | done | rfl | (simp only [List.length_drop, List.length_take]; rfl)) ?_; (with_reducible refine (pollardlaw19_text.calls k _ _ l1 t259 _ ?side1 ?side2 A4.out).mono ?_); (case side1 => repeat (first | exact HR1.out | (with_reducible refine Kd.C_alloc ?_ _) | (with_reducible refine Kd.C_drewN ?_ _) | (with_reducible refine Kd.C_drew ?_))); (case side2 => exact HC1.out); rintro e w' ⟨rfl, ⟨nd, rfl⟩⟩; refine ⟨_, rfl, ?_⟩) | ((with_reducible refine gate_callee (f := 15) rfl ?_); refine goesL_ (some 24) rfl rfl Tryd.func15 (by kernel_rfl) rfl #[.string t258, .string t259, .string t258] rfl (by (try simp only [List.map_toArray, List.map_cons, List.map_nil]); first | done | rfl | (simp only [List.length_drop, List.length_take]; rfl)) ?_; (with_reducible refine (merge_Texts.calls k t258 t259 t258 t260 true t262 _ A5.out).mono ?_); rintro e w18 ⟨rfl, hb⟩; refine ⟨_, rfl, ?_⟩; have n0_ := Aside0.mk (below_step (by repeat (first | (with_reducible first | exact HB.out | apply below_alloc | apply pw_below_drewN | apply below_drew1) | exact HB.out)) hb); clear HB; have HB := n0_; clear n0_; (try clear hb); (try clear hb2); (try clear hk); (try clear hi)) | ((with_reducible refine gate_callee (f := 15) rfl ?_); refine goesL_ (some 32) rfl rfl Tryd.func15 (by kernel_rfl) rfl #[.string t258, .string t258, .string t259] rfl (by (try simp only [List.map_toArray, List.map_cons, List.map_nil]); first | done | rfl | (simp only [List.length_drop, List.length_take]; rfl)) ?_; (with_reducible refine (merge_Texts.calls k t258 t258 t259 t263 true t265 _ A6.out).mono ?_); rintro e w19 ⟨rfl, hb⟩; refine ⟨_, rfl, ?_⟩; have n0_ := Aside0.mk (below_step (by repeat (first | (with_reducible first | exact HB.out | apply below_alloc | apply pw_below_drewN | apply below_drew1) | exact HB.out)) hb); clear HB; have HB := n0_; clear n0_; (try clear hb); (try clear hb2); (try clear hk); (try clear hi)) | ((with_reducible refine gate_callee (f := 15) rfl ?_); refine goesL_ (some 40) rfl rfl Tryd.func15 (by kernel_rfl) rfl #[.string t258, .string t259, .string t259] rfl (by (try simp only [List.map_toArray, List.map_cons, List.map_nil]); first | done | rfl | (simp only [List.length_drop, List.length_take]; rfl)) ?_; (with_reducible refine (merge_Texts.calls k t258 t259 t259 t266 true t268 _ A7.out).mono ?_); rintro e w20 ⟨rfl, hb⟩; refine ⟨_, rfl, ?_⟩; have n0_ := Aside0.mk (below_step (by repeat (first | (with_reducible first | exact HB.out | apply below_alloc | apply pw_below_drewN | apply below_drew1) | exact HB.out)) hb); clear HB; have HB := n0_; clear n0_; (try clear hb); (try clear hb2); (try clear hk); (try clear hi)) | ((with_reducible refine gate_callee (f := 12) rfl ?_); refine goesL_ (some 44) rfl rfl Tryd.func12 (by kernel_rfl) rfl #[] rfl (by (try simp only [List.map_toArray, List.map_cons, List.map_nil]); first | done | rfl | (simp only [List.length_drop, List.length_take]; rfl)) ?_; (with_reducible refine (pollardlaw19_awake.calls k  true _ A8.out).mono ?_); rintro e w21 ⟨rfl, hb⟩; refine ⟨_, rfl, ?_⟩; have n0_ := Aside0.mk (below_step (by repeat (first | (with_reducible first | exact HB.out | apply below_alloc | apply pw_below_drewN | apply below_drew1) | exact HB.out)) hb); clear HB; have HB := n0_; clear n0_; (try clear hb); (try clear hb2); (try clear hk); (try clear hi)))
                    go_ret
                    exact ⟨by first | rfl | (simp [errW_none, errW_some] <;> rfl) | (simp [*, errW_none, errW_some] <;> rfl), by repeat (first | (with_reducible first | exact HB.out | apply below_alloc | apply pw_below_drewN | apply below_drew1) | exact HB.out)⟩
                  · rw [if_neg c17] at H
                    exact absurd H (by simp)
                · rw [if_neg c16] at H
                  exact absurd H (by simp)
              · replace c15 := Bool.eq_false_iff.mpr c15
                subst c15
                have H1 : (none) = some r := by rw [if_neg (show ¬ (false = true) by decide)] at H; exact H
                clear H
                have H := H1
                clear H1
                exact absurd H (by simp)
            · replace c14 := Bool.eq_false_iff.mpr c14
              subst c14
              have H1 : (none) = some r := by rw [if_neg (show ¬ (false = true) by decide)] at H; exact H
              clear H
              have H := H1
              clear H1
              exact absurd H (by simp)
          · replace c13 := Bool.eq_false_iff.mpr c13
            subst c13
            have H1 : (none) = some r := by rw [if_neg (show ¬ (false = true) by decide)] at H; exact H
            clear H
            have H := H1
            clear H1
            exact absurd H (by simp)
        · rw [if_neg c12] at H
          exact absurd H (by simp)
      · rw [if_neg c11] at H
        exact absurd H (by simp)
    · rw [if_neg c10] at H
      exact absurd H (by simp)
  · replace c9 := Bool.eq_false_iff.mpr c9
    subst c9
    have H1 : (none) = some r := by rw [if_neg (show ¬ (false = true) by decide)] at H; exact H
    clear H
    have H := H1
    clear H1
    exact absurd H (by simp)

end Go.Proofs.YtfkajhppdeidjaaDoor.M
