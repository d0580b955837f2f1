/- The program's functions as plain functions, and that each call comes to what these tell; written by a program of this session, some contracts by hand. Conditions: none. -/
import Derived.Test.YtgepbdkbleapaaaMx0
import Derived.Test.YtgepbdkbleapaaaMx8
namespace Go.Proofs.Ytgepbdkbleapaaa.M
open Go.RowKit Go.Proofs.YtgepbdkbleapaaaW.PrintWords Go.Proofs.YtgepbdkbleapaaaW.PrintLast Go.Proofs.YtgepbdkbleapaaaW.PrintMore
attribute [local go_sem] max2_int min2_int max_two min_two max_three min_three max_four min_four   -- for this text's walks alone
set_option linter.unusedVariables false
set_option linter.unusedSimpArgs false

/-! ### pollardref13_Check: function 16 -/
def pollardref13_Check.l0 : Nat → Int → ByteArray → List (S61) → Option (Int)
 | 0, _, _, _ => none
 | k + 1, x3, x140000, x140001 => if x3 < (x140001.length : Int) then (if 0 ≤ x3 then ((pollardref05_Ref.f k ((rd_T61 x140001 x3).f0)).bind fun t142 => (if t142 = 0 then (some 50) else (if (((rd_T61 x140001 x3).f1).size : Int) = 32 then (if x3 > 0 then (if 0 ≤ (wrap64 (x3 - 1)) then (if (wrap64 (x3 - 1)) < (x140001.length : Int) then (if (Op.bytesLess (((rd_T61 x140001 x3).f0).toList) (((rd_T61 x140001 (wrap64 (x3 - 1))).f0).toList) || (((rd_T61 x140001 x3).f0).toList) == (((rd_T61 x140001 (wrap64 (x3 - 1))).f0).toList)) = true then (some 61) else (pollardref13_Check.l0 k (wrap64 (x3 + 1)) x140000 x140001)) else (none)) else (none)) else (pollardref13_Check.l0 k (wrap64 (x3 + 1)) x140000 x140001)) else (some 6)))) else (none)) else (some 0)
def pollardref13_Check.f (k : Nat) (a0_0 : ByteArray) (l0_1 : List (S61)) : Option (Int) := if (l0_1.length : Int) > 256 then (some 3) else ((pollardref05_Ref.f k a0_0).bind fun t140 => (if t140 = 1 then (pollardref13_Check.l0 k 0 a0_0 l0_1) else (some 50)))
theorem pollardref13_Check.mono_l : ∀ k, (∀ y0 y1 y2, LeO (pollardref13_Check.l0 k y0 y1 y2) (pollardref13_Check.l0 (k + 1) y0 y1 y2))
 | 0 => fun _ _ _ r h => by simp [pollardref13_Check.l0] at h
 | k + 1 => by
  have ih0 := pollardref13_Check.mono_l k
  ·
   intro y0 y1 y2
   unfold pollardref13_Check.l0
   repeat' with_reducible first | exact ih0 _ _ _ | exact pollardref05_Ref.mono _ _ | exact LeO.refl _ | exact LeO.none _ | refine LeO.ite ?_ ?_ | refine LeO.bind ?_ (fun _ => ?_)
theorem pollardref13_Check.mono : ∀ a0 a1 k, LeO (pollardref13_Check.f k a0 a1) (pollardref13_Check.f (k + 1) a0 a1) := by
 intro a0 a1 k
 have ih0 := pollardref13_Check.mono_l k
 unfold pollardref13_Check.f
 repeat' with_reducible first | exact ih0 _ _ _ | exact pollardref05_Ref.mono _ _ | exact LeO.refl _ | exact LeO.none _ | refine LeO.ite ?_ ?_ | refine LeO.bind ?_ (fun _ => ?_)
set_option maxHeartbeats 8000000 in
set_option maxRecDepth 100000 in
theorem pollardref13_Check.calls (k : Nat) (a0_0 : ByteArray) (A0_1 : Option Addr) (c0_1 : Nat) (l0_1 : List (S61)) (r : Int) (w : World) (hr0_1 : Kd.C k61 w A0_1 l0_1.length l0_1) (hc0_1 : l0_1.length ≤ c0_1) (h : pollardref13_Check.f k a0_0 l0_1 = some r) :
 Calls Try.prog 16 #[.agg #[.string a0_0, .slice A0_1 l0_1.length c0_1]] w fun e w' => e = .returned (.int .i64 r) ∧ Below w.heap.size w w' := by
 have hu30 := Try.underlying30
 have HR0_1 := Aside0.mk hr0_1
 have HC0_1 := Aside0.mk hc0_1
 clear hr0_1 hc0_1
 have HB := Aside0.mk (Below.refl w.heap.size w)
 have H : (if (l0_1.length : Int) > 256 then (some 3) else ((pollardref05_Ref.f k a0_0).bind fun t140 => (if t140 = 1 then (pollardref13_Check.l0 k 0 a0_0 l0_1) else (some 50)))) = some r := h
 clear h
 by_cases c2 : (l0_1.length : Int) > 256
 · rw [if_pos c2] at H
   have c2b0 : decide (256 < (l0_1.length : Int)) = true := decide_eq_true c2
   have c2b1 : decide (256 < l0_1.length) = true := decide_eq_true (by omega)
   clear c2
   obtain rfl := Option.some.inj H
   go_enter Try.func16, Try.ntmps16
   go_wp2_with (first | ((with_reducible refine gate_dst (N := 1) rfl ?_); refine box_event ?hg (N := 1) ?hd (cs := #[.string a0_0, .slice A0_1 l0_1.length c0_1]) (t := 30) ?hr ?_; (case hd => rfl); (case hg => rfl); (case hr => first | (go_simp; done) | (go_simp; rfl)); intro gb139 hg w3 hbox hb; have n0_ := Aside0.mk (below_step bz_ hb); have n1_ := Aside0.mk (hbox); have n2_ := Aside0.mk ((by rw [hg]; exact (below_size bz_) : w.heap.size ≤ gb139)); have n3_ := Aside0.mk ((by rw [hg]; exact (below_size bz_) : w.heap.size ≤ gb139)); clear HB; have HB := n0_; have BK139 := n1_; have GW139 := n2_; have GE139 := n3_; clear n0_ n1_ n2_ n3_; clear hb hbox hg; have hcz4_0 : w3.cell? ⟨gb139, 0, none⟩ = some (.string a0_0) := (blk_cell BK139.out 0).trans rfl; have hcz4_1 : w3.cell? ⟨gb139, 1, none⟩ = some (.slice A0_1 l0_1.length c0_1) := (blk_cell BK139.out 1).trans rfl; have hfz4_0 := blk_frozen BK139.out 0; have hfz4_1 := blk_frozen BK139.out 1))
   repeat (go_quiet (first | ((with_reducible refine gate_dst (N := 1) rfl ?_); refine box_event ?hg (N := 1) ?hd (cs := #[.string a0_0, .slice A0_1 l0_1.length c0_1]) (t := 30) ?hr ?_; (case hd => rfl); (case hg => rfl); (case hr => first | (go_simp; done) | (go_simp; rfl)); intro gb139 hg w3 hbox hb; have n0_ := Aside0.mk (below_step bz_ hb); have n1_ := Aside0.mk (hbox); have n2_ := Aside0.mk ((by rw [hg]; exact (below_size bz_) : w.heap.size ≤ gb139)); have n3_ := Aside0.mk ((by rw [hg]; exact (below_size bz_) : w.heap.size ≤ gb139)); clear HB; have HB := n0_; have BK139 := n1_; have GW139 := n2_; have GE139 := n3_; clear n0_ n1_ n2_ n3_; clear hb hbox hg; have hcz4_0 : w3.cell? ⟨gb139, 0, none⟩ = some (.string a0_0) := (blk_cell BK139.out 0).trans rfl; have hcz4_1 : w3.cell? ⟨gb139, 1, none⟩ = some (.slice A0_1 l0_1.length c0_1) := (blk_cell BK139.out 1).trans rfl; have hfz4_0 := blk_frozen BK139.out 0; have hfz4_1 := blk_frozen BK139.out 1)); try go_wp2_with (first | ((with_reducible refine gate_dst (N := 1) rfl ?_); refine box_event ?hg (N := 1) ?hd (cs := #[.string a0_0, .slice A0_1 l0_1.length c0_1]) (t := 30) ?hr ?_; (case hd => rfl); (case hg => rfl); (case hr => first | (go_simp; done) | (go_simp; rfl)); intro gb139 hg w3 hbox hb; have n0_ := Aside0.mk (below_step bz_ hb); have n1_ := Aside0.mk (hbox); have n2_ := Aside0.mk ((by rw [hg]; exact (below_size bz_) : w.heap.size ≤ gb139)); have n3_ := Aside0.mk ((by rw [hg]; exact (below_size bz_) : w.heap.size ≤ gb139)); clear HB; have HB := n0_; have BK139 := n1_; have GW139 := n2_; have GE139 := n3_; clear n0_ n1_ n2_ n3_; clear hb hbox hg; have hcz4_0 : w3.cell? ⟨gb139, 0, none⟩ = some (.string a0_0) := (blk_cell BK139.out 0).trans rfl; have hcz4_1 : w3.cell? ⟨gb139, 1, none⟩ = some (.slice A0_1 l0_1.length c0_1) := (blk_cell BK139.out 1).trans rfl; have hfz4_0 := blk_frozen BK139.out 0; have hfz4_1 := blk_frozen BK139.out 1)))
   go_ret
   exact ⟨xz_, bs1_ GE139.out⟩
 ·
  rw [if_neg c2] at H
  have c2b0 : decide (256 < (l0_1.length : Int)) = false := decide_eq_false c2
  have c2b1 : decide (256 < l0_1.length) = false := decide_eq_false (by omega)
  clear c2
  replace H := Option.bind_eq_some_iff.mp H
  obtain ⟨t140, A50, H⟩ := H
  try dsimp only at H
  have A5 := Aside0.mk A50
  clear A50
  by_cases c6 : t140 = 1
  ·
   rw [if_pos c6] at H
   have c6b0 : (t140 == 1) = true := beq_iff_eq.mpr c6
   have c6b1 : (t140 != 1) = false := bne_eq_false_iff_eq.mpr c6
   clear c6
   have H' := Aside0.mk H
   clear H
   go_enter Try.func16, Try.ntmps16
   go_wp2_with (first | ((with_reducible refine gate_dst (N := 1) rfl ?_); refine box_event ?hg (N := 1) ?hd (cs := #[.string a0_0, .slice A0_1 l0_1.length c0_1]) (t := 30) ?hr ?_; (case hd => rfl); (case hg => rfl); (case hr => first | (go_simp; done) | (go_simp; rfl)); intro gb139 hg w7 hbox hb; have n0_ := Aside0.mk (below_step bz_ hb); have n1_ := Aside0.mk (hbox); have n2_ := Aside0.mk ((by rw [hg]; exact (below_size bz_) : w.heap.size ≤ gb139)); have n3_ := Aside0.mk ((by rw [hg]; exact (below_size bz_) : w.heap.size ≤ gb139)); clear HB; have HB := n0_; have BK139 := n1_; have GW139 := n2_; have GE139 := n3_; clear n0_ n1_ n2_ n3_; clear hb hbox hg; have hcz8_0 : w7.cell? ⟨gb139, 0, none⟩ = some (.string a0_0) := (blk_cell BK139.out 0).trans rfl; have hcz8_1 : w7.cell? ⟨gb139, 1, none⟩ = some (.slice A0_1 l0_1.length c0_1) := (blk_cell BK139.out 1).trans rfl; have hfz8_0 := blk_frozen BK139.out 0; have hfz8_1 := blk_frozen BK139.out 1) | (go_at_call 31; (with_reducible refine (pollardref05_Ref.calls k a0_0 t140 _ A5.out).mono ?_); rintro e w' ⟨rfl, ⟨nd, rfl⟩⟩; (try exact wz_)))
   repeat (go_quiet (first | ((with_reducible refine gate_dst (N := 1) rfl ?_); refine box_event ?hg (N := 1) ?hd (cs := #[.string a0_0, .slice A0_1 l0_1.length c0_1]) (t := 30) ?hr ?_; (case hd => rfl); (case hg => rfl); (case hr => first | (go_simp; done) | (go_simp; rfl)); intro gb139 hg w7 hbox hb; have n0_ := Aside0.mk (below_step bz_ hb); have n1_ := Aside0.mk (hbox); have n2_ := Aside0.mk ((by rw [hg]; exact (below_size bz_) : w.heap.size ≤ gb139)); have n3_ := Aside0.mk ((by rw [hg]; exact (below_size bz_) : w.heap.size ≤ gb139)); clear HB; have HB := n0_; have BK139 := n1_; have GW139 := n2_; have GE139 := n3_; clear n0_ n1_ n2_ n3_; clear hb hbox hg; have hcz8_0 : w7.cell? ⟨gb139, 0, none⟩ = some (.string a0_0) := (blk_cell BK139.out 0).trans rfl; have hcz8_1 : w7.cell? ⟨gb139, 1, none⟩ = some (.slice A0_1 l0_1.length c0_1) := (blk_cell BK139.out 1).trans rfl; have hfz8_0 := blk_frozen BK139.out 0; have hfz8_1 := blk_frozen BK139.out 1) | (go_at_call 31; (with_reducible refine (pollardref05_Ref.calls k a0_0 t140 _ A5.out).mono ?_); rintro e w' ⟨rfl, ⟨nd, rfl⟩⟩; (try exact wz_))); try go_wp2_with (first | ((with_reducible refine gate_dst (N := 1) rfl ?_); refine box_event ?hg (N := 1) ?hd (cs := #[.string a0_0, .slice A0_1 l0_1.length c0_1]) (t := 30) ?hr ?_; (case hd => rfl); (case hg => rfl); (case hr => first | (go_simp; done) | (go_simp; rfl)); intro gb139 hg w7 hbox hb; have n0_ := Aside0.mk (below_step bz_ hb); have n1_ := Aside0.mk (hbox); have n2_ := Aside0.mk ((by rw [hg]; exact (below_size bz_) : w.heap.size ≤ gb139)); have n3_ := Aside0.mk ((by rw [hg]; exact (below_size bz_) : w.heap.size ≤ gb139)); clear HB; have HB := n0_; have BK139 := n1_; have GW139 := n2_; have GE139 := n3_; clear n0_ n1_ n2_ n3_; clear hb hbox hg; have hcz8_0 : w7.cell? ⟨gb139, 0, none⟩ = some (.string a0_0) := (blk_cell BK139.out 0).trans rfl; have hcz8_1 : w7.cell? ⟨gb139, 1, none⟩ = some (.slice A0_1 l0_1.length c0_1) := (blk_cell BK139.out 1).trans rfl; have hfz8_0 := blk_frozen BK139.out 0; have hfz8_1 := blk_frozen BK139.out 1) | (go_at_call 31; (with_reducible refine (pollardref05_Ref.calls k a0_0 t140 _ A5.out).mono ?_); rintro e w' ⟨rfl, ⟨nd, rfl⟩⟩; (try exact wz_))))
   go_loopg [3] k (fun kq v3 w' => ∃ (x3_1 : Int), v3 = .int .i64 x3_1 ∧ Aside0 (pollardref13_Check.l0 kq x3_1 a0_0 l0_1 = some r) ∧ Aside0 (kq ≤ k) ∧ Aside0 (w'.heap[gb139]? = some (.cells #[.string a0_0, (.slice A0_1 l0_1.length c0_1)] 30 (0, 0))) ∧ Aside0 (Below w.heap.size w w'))
   case atStart => exact ⟨(0), ez_, H', ⟨Nat.le_refl _⟩, ⟨kz_ BK139.out⟩, ⟨bs1_ GE139.out⟩⟩
   case round =>
    clear H'
    try clear c1
    try clear c2
    try clear c2b0
    try clear c2b1
    try clear p2
    try clear c6
    try clear c6b0
    try clear c6b1
    try clear hcz4_0
    try clear hcz4_1
    try clear hcz8_0
    try clear hcz8_1
    try clear hfz4_0
    try clear hfz4_1
    try clear hfz8_0
    try clear hfz8_1
    obtain ⟨x3_1, rfl, HA, HK1, BK139, HB⟩ := hrel
    cases gk with
    | zero => exact absurd HA.out (by simp [pollardref13_Check.l0])
    | succ k1 =>
     have H := HA.out
     clear HA
     simp only [pollardref13_Check.l0] at H
     by_cases c9 : x3_1 < (l0_1.length : Int)
     ·
      rw [if_pos c9] at H
      have c9b0 : decide (x3_1 < (l0_1.length : Int)) = true := decide_eq_true c9
      clear c9
      by_cases c10 : 0 ≤ x3_1
      ·
       rw [if_pos c10] at H
       have c10b0 : decide (0 ≤ x3_1) = true := decide_eq_true c10
       clear c10
       replace H := Option.bind_eq_some_iff.mp H
       obtain ⟨t142, A110, H⟩ := H
       try dsimp only at H
       have A11 := Aside0.mk A110
       clear A110
       by_cases c12 : t142 = 0
       ·
        rw [if_pos c12] at H
        have c12b0 : (t142 == 0) = true := beq_iff_eq.mpr c12
        have c12b1 : (t142 != 0) = false := bne_eq_false_iff_eq.mpr c12
        clear c12
        obtain rfl := Option.some.inj H
        have hcz13_0 : wr.cell? ⟨gb139, 0, none⟩ = some (.string a0_0) := (blk_cell BK139.out 0).trans rfl
        have hcz13_1 : wr.cell? ⟨gb139, 1, none⟩ = some (.slice A0_1 l0_1.length c0_1) := (blk_cell BK139.out 1).trans rfl
        have hfz13_0 := blk_frozen BK139.out 0
        have hfz13_1 := blk_frozen BK139.out 1
        have p141 : 0 ≤ (x3_1 : Int) := of_decide_eq_true az_
        have q141 : x3_1 < (l0_1.length : Int) := of_decide_eq_true az_
        obtain ⟨ad141, e141, hx141_0, hx141_1⟩ := at_T61 HR0_1.out x3_1 p141 q141
        cases e141
        replace hx141_0 := (HB.out.cell (World.block_lt_of_cell? w _ hx141_0)).trans hx141_0
        replace hx141_1 := (HB.out.cell (World.block_lt_of_cell? w _ hx141_1)).trans hx141_1
        replace p141 := eq_true p141
        replace q141 := eq_true q141
        go_wp2_with (first | (go_at_call 31; (with_reducible refine (pollardref05_Ref.calls k1 ((rd_T61 l0_1 x3_1).f0) t142 _ A11.out).mono ?_); rintro e w' ⟨rfl, ⟨nd, rfl⟩⟩; (try exact wz_)))
        repeat (go_quiet (first | (go_at_call 31; (with_reducible refine (pollardref05_Ref.calls k1 ((rd_T61 l0_1 x3_1).f0) t142 _ A11.out).mono ?_); rintro e w' ⟨rfl, ⟨nd, rfl⟩⟩; (try exact wz_))); try go_wp2_with (first | (go_at_call 31; (with_reducible refine (pollardref05_Ref.calls k1 ((rd_T61 l0_1 x3_1).f0) t142 _ A11.out).mono ?_); rintro e w' ⟨rfl, ⟨nd, rfl⟩⟩; (try exact wz_))))
        go_ret
        exact ⟨xz_, bs1_ GE139.out⟩
       ·
        rw [if_neg c12] at H
        have c12b0 : (t142 == 0) = false := beq_eq_false_iff_ne.mpr c12
        have c12b1 : (t142 != 0) = true := bne_iff_ne.mpr c12
        by_cases c14 : (((rd_T61 l0_1 x3_1).f1).size : Int) = 32
        ·
         rw [if_pos c14] at H
         have c14b0 : ((((rd_T61 l0_1 x3_1).f1).size : Int) == 32) = true := beq_iff_eq.mpr c14
         have c14b1 : ((((rd_T61 l0_1 x3_1).f1).size : Int) != 32) = false := bne_eq_false_iff_eq.mpr c14
         clear c14
         by_cases c15 : x3_1 > 0
         ·
          rw [if_pos c15] at H
          have c15b0 : decide (0 < x3_1) = true := decide_eq_true c15
          clear c15
          obtain ⟨ji16, hji16⟩ : ∃ j_ : Int, (wrap64 (x3_1 - 1)) = j_ := ⟨_, rfl⟩
          replace H : (if 0 ≤ (ji16) then (if (ji16) < (l0_1.length : Int) then (if (Op.bytesLess (((rd_T61 l0_1 x3_1).f0).toList) (((rd_T61 l0_1 (ji16)).f0).toList) || (((rd_T61 l0_1 x3_1).f0).toList) == (((rd_T61 l0_1 (ji16)).f0).toList)) = true then (some 61) else (pollardref13_Check.l0 k1 (wrap64 (x3_1 + 1)) a0_0 l0_1)) else (none)) else (none)) = some r := by first | (rw [hji16] at H; exact H) | (simp only [hji16] at H ⊢; exact H)
          (try rw [hji16] at BK139)
          (try rw [hji16] at A11)
          have hji16w : (IntKind.i64.wrap (x3_1 - 1)) = ji16 := (i64_w _).trans hji16
          by_cases c17 : 0 ≤ (ji16)
          ·
           rw [if_pos c17] at H
           have c17b0 : decide (0 ≤ (ji16)) = true := decide_eq_true c17
           clear c17
           by_cases c18 : (ji16) < (l0_1.length : Int)
           ·
            rw [if_pos c18] at H
            have c18b0 : decide ((ji16) < (l0_1.length : Int)) = true := decide_eq_true c18
            clear c18
            by_cases c19 : (Op.bytesLess (((rd_T61 l0_1 x3_1).f0).toList) (((rd_T61 l0_1 (ji16)).f0).toList) || (((rd_T61 l0_1 x3_1).f0).toList) == (((rd_T61 l0_1 (ji16)).f0).toList)) = true
            ·
             rw [if_pos c19] at H
             have c19b0 : (Op.bytesLess (((rd_T61 l0_1 x3_1).f0).toList) (((rd_T61 l0_1 (ji16)).f0).toList) || (((rd_T61 l0_1 x3_1).f0).toList) == (((rd_T61 l0_1 (ji16)).f0).toList)) = true := c19
             (try (have c19b1 : decide (Op.bytesLess (((rd_T61 l0_1 x3_1).f0).toList) (((rd_T61 l0_1 (ji16)).f0).toList) || (((rd_T61 l0_1 x3_1).f0).toList) = (((rd_T61 l0_1 (ji16)).f0).toList)) = true := by simpa using c19))
             (try (have c19b2 : (Op.bytesLess (((rd_T61 l0_1 x3_1).f0).toList) (((rd_T61 l0_1 (ji16)).f0).toList) || (((rd_T61 l0_1 x3_1).f0).toList) == (((rd_T61 l0_1 (ji16)).f0).toList)) = true := by simpa using c19))
             clear c19
             obtain rfl := Option.some.inj H
             have hcz20_0 : wr.cell? ⟨gb139, 0, none⟩ = some (.string a0_0) := (blk_cell BK139.out 0).trans rfl
             have hcz20_1 : wr.cell? ⟨gb139, 1, none⟩ = some (.slice A0_1 l0_1.length c0_1) := (blk_cell BK139.out 1).trans rfl
             have hfz20_0 := blk_frozen BK139.out 0
             have hfz20_1 := blk_frozen BK139.out 1
             have p141 : 0 ≤ (x3_1 : Int) := of_decide_eq_true az_
             have q141 : x3_1 < (l0_1.length : Int) := of_decide_eq_true az_
             obtain ⟨ad141, e141, hx141_0, hx141_1⟩ := at_T61 HR0_1.out x3_1 p141 q141
             cases e141
             replace hx141_0 := (HB.out.cell (World.block_lt_of_cell? w _ hx141_0)).trans hx141_0
             replace hx141_1 := (HB.out.cell (World.block_lt_of_cell? w _ hx141_1)).trans hx141_1
             replace p141 := eq_true p141
             replace q141 := eq_true q141
             go_wp2_with (first | (go_at_call 31; (with_reducible refine (pollardref05_Ref.calls k1 ((rd_T61 l0_1 x3_1).f0) t142 _ A11.out).mono ?_); rintro e w' ⟨rfl, ⟨nd, rfl⟩⟩; (try exact wz_); have p143 : 0 ≤ (x3_1 : Int) := of_decide_eq_true az_; have q143 : x3_1 < (l0_1.length : Int) := of_decide_eq_true az_; obtain ⟨ad143, e143, hx143_0, hx143_1⟩ := at_T61 HR0_1.out x3_1 p143 q143; obtain rfl : ad141 = ad143 := (by injection e143); replace hx143_0 := (HB.out.cell (World.block_lt_of_cell? w _ hx143_0)).trans hx143_0; replace hx143_1 := (HB.out.cell (World.block_lt_of_cell? w _ hx143_1)).trans hx143_1; replace p143 := eq_true p143; replace q143 := eq_true q143; have p144 : 0 ≤ (x3_1 : Int) := of_decide_eq_true az_; have q144 : x3_1 < (l0_1.length : Int) := of_decide_eq_true az_; obtain ⟨ad144, e144, hx144_0, hx144_1⟩ := at_T61 HR0_1.out x3_1 p144 q144; obtain rfl : ad141 = ad144 := (by injection e144); replace hx144_0 := (HB.out.cell (World.block_lt_of_cell? w _ hx144_0)).trans hx144_0; replace hx144_1 := (HB.out.cell (World.block_lt_of_cell? w _ hx144_1)).trans hx144_1; replace p144 := eq_true p144; replace q144 := eq_true q144; have p145 : 0 ≤ ((ji16) : Int) := of_decide_eq_true az_; have q145 : (ji16) < (l0_1.length : Int) := of_decide_eq_true az_; obtain ⟨ad145, e145, hx145_0, hx145_1⟩ := at_T61 HR0_1.out (ji16) p145 q145; obtain rfl : ad141 = ad145 := (by injection e145); replace hx145_0 := (HB.out.cell (World.block_lt_of_cell? w _ hx145_0)).trans hx145_0; replace hx145_1 := (HB.out.cell (World.block_lt_of_cell? w _ hx145_1)).trans hx145_1; replace p145 := eq_true p145; replace q145 := eq_true q145))
             repeat (go_quiet (first | (go_at_call 31; (with_reducible refine (pollardref05_Ref.calls k1 ((rd_T61 l0_1 x3_1).f0) t142 _ A11.out).mono ?_); rintro e w' ⟨rfl, ⟨nd, rfl⟩⟩; (try exact wz_); have p143 : 0 ≤ (x3_1 : Int) := of_decide_eq_true az_; have q143 : x3_1 < (l0_1.length : Int) := of_decide_eq_true az_; obtain ⟨ad143, e143, hx143_0, hx143_1⟩ := at_T61 HR0_1.out x3_1 p143 q143; obtain rfl : ad141 = ad143 := (by injection e143); replace hx143_0 := (HB.out.cell (World.block_lt_of_cell? w _ hx143_0)).trans hx143_0; replace hx143_1 := (HB.out.cell (World.block_lt_of_cell? w _ hx143_1)).trans hx143_1; replace p143 := eq_true p143; replace q143 := eq_true q143; have p144 : 0 ≤ (x3_1 : Int) := of_decide_eq_true az_; have q144 : x3_1 < (l0_1.length : Int) := of_decide_eq_true az_; obtain ⟨ad144, e144, hx144_0, hx144_1⟩ := at_T61 HR0_1.out x3_1 p144 q144; obtain rfl : ad141 = ad144 := (by injection e144); replace hx144_0 := (HB.out.cell (World.block_lt_of_cell? w _ hx144_0)).trans hx144_0; replace hx144_1 := (HB.out.cell (World.block_lt_of_cell? w _ hx144_1)).trans hx144_1; replace p144 := eq_true p144; replace q144 := eq_true q144; have p145 : 0 ≤ ((ji16) : Int) := of_decide_eq_true az_; have q145 : (ji16) < (l0_1.length : Int) := of_decide_eq_true az_; obtain ⟨ad145, e145, hx145_0, hx145_1⟩ := at_T61 HR0_1.out (ji16) p145 q145; obtain rfl : ad141 = ad145 := (by injection e145); replace hx145_0 := (HB.out.cell (World.block_lt_of_cell? w _ hx145_0)).trans hx145_0; replace hx145_1 := (HB.out.cell (World.block_lt_of_cell? w _ hx145_1)).trans hx145_1; replace p145 := eq_true p145; replace q145 := eq_true q145)); try go_wp2_with (first | (go_at_call 31; (with_reducible refine (pollardref05_Ref.calls k1 ((rd_T61 l0_1 x3_1).f0) t142 _ A11.out).mono ?_); rintro e w' ⟨rfl, ⟨nd, rfl⟩⟩; (try exact wz_); have p143 : 0 ≤ (x3_1 : Int) := of_decide_eq_true az_; have q143 : x3_1 < (l0_1.length : Int) := of_decide_eq_true az_; obtain ⟨ad143, e143, hx143_0, hx143_1⟩ := at_T61 HR0_1.out x3_1 p143 q143; obtain rfl : ad141 = ad143 := (by injection e143); replace hx143_0 := (HB.out.cell (World.block_lt_of_cell? w _ hx143_0)).trans hx143_0; replace hx143_1 := (HB.out.cell (World.block_lt_of_cell? w _ hx143_1)).trans hx143_1; replace p143 := eq_true p143; replace q143 := eq_true q143; have p144 : 0 ≤ (x3_1 : Int) := of_decide_eq_true az_; have q144 : x3_1 < (l0_1.length : Int) := of_decide_eq_true az_; obtain ⟨ad144, e144, hx144_0, hx144_1⟩ := at_T61 HR0_1.out x3_1 p144 q144; obtain rfl : ad141 = ad144 := (by injection e144); replace hx144_0 := (HB.out.cell (World.block_lt_of_cell? w _ hx144_0)).trans hx144_0; replace hx144_1 := (HB.out.cell (World.block_lt_of_cell? w _ hx144_1)).trans hx144_1; replace p144 := eq_true p144; replace q144 := eq_true q144; have p145 : 0 ≤ ((ji16) : Int) := of_decide_eq_true az_; have q145 : (ji16) < (l0_1.length : Int) := of_decide_eq_true az_; obtain ⟨ad145, e145, hx145_0, hx145_1⟩ := at_T61 HR0_1.out (ji16) p145 q145; obtain rfl : ad141 = ad145 := (by injection e145); replace hx145_0 := (HB.out.cell (World.block_lt_of_cell? w _ hx145_0)).trans hx145_0; replace hx145_1 := (HB.out.cell (World.block_lt_of_cell? w _ hx145_1)).trans hx145_1; replace p145 := eq_true p145; replace q145 := eq_true q145)))
             go_ret
             exact ⟨by first | rfl | (simp [errW_none, errW_some] <;> rfl) | (simp only [← hji16]; first | rfl | (simp [errW_none, errW_some] <;> rfl)) | (simp [*, errW_none, errW_some] <;> rfl), bs1_ GE139.out⟩
            ·
             rw [if_neg c19] at H
             have c19b0 : (Op.bytesLess (((rd_T61 l0_1 x3_1).f0).toList) (((rd_T61 l0_1 (ji16)).f0).toList) || (((rd_T61 l0_1 x3_1).f0).toList) == (((rd_T61 l0_1 (ji16)).f0).toList)) = false := by simpa using c19
             (try (have c19b1 : decide (Op.bytesLess (((rd_T61 l0_1 x3_1).f0).toList) (((rd_T61 l0_1 (ji16)).f0).toList) || (((rd_T61 l0_1 x3_1).f0).toList) = (((rd_T61 l0_1 (ji16)).f0).toList)) = false := by simpa using c19))
             (try (have c19b2 : (Op.bytesLess (((rd_T61 l0_1 x3_1).f0).toList) (((rd_T61 l0_1 (ji16)).f0).toList) || (((rd_T61 l0_1 x3_1).f0).toList) == (((rd_T61 l0_1 (ji16)).f0).toList)) = false := by simpa using c19))
             (try (have c19b3 : ¬ (Op.bytesLess (((rd_T61 l0_1 x3_1).f0).toList) (((rd_T61 l0_1 (ji16)).f0).toList) || (((rd_T61 l0_1 x3_1).f0).toList) = (((rd_T61 l0_1 (ji16)).f0).toList)) := by simpa using c19))
             clear c19
             have H' := Aside0.mk H
             clear H
             have hcz21_0 : wr.cell? ⟨gb139, 0, none⟩ = some (.string a0_0) := (blk_cell BK139.out 0).trans rfl
             have hcz21_1 : wr.cell? ⟨gb139, 1, none⟩ = some (.slice A0_1 l0_1.length c0_1) := (blk_cell BK139.out 1).trans rfl
             have hfz21_0 := blk_frozen BK139.out 0
             have hfz21_1 := blk_frozen BK139.out 1
             have p141 : 0 ≤ (x3_1 : Int) := of_decide_eq_true az_
             have q141 : x3_1 < (l0_1.length : Int) := of_decide_eq_true az_
             obtain ⟨ad141, e141, hx141_0, hx141_1⟩ := at_T61 HR0_1.out x3_1 p141 q141
             cases e141
             replace hx141_0 := (HB.out.cell (World.block_lt_of_cell? w _ hx141_0)).trans hx141_0
             replace hx141_1 := (HB.out.cell (World.block_lt_of_cell? w _ hx141_1)).trans hx141_1
             replace p141 := eq_true p141
             replace q141 := eq_true q141
             go_wp2_with (first | (go_at_call 31; (with_reducible refine (pollardref05_Ref.calls k1 ((rd_T61 l0_1 x3_1).f0) t142 _ A11.out).mono ?_); rintro e w' ⟨rfl, ⟨nd, rfl⟩⟩; (try exact wz_); have p143 : 0 ≤ (x3_1 : Int) := of_decide_eq_true az_; have q143 : x3_1 < (l0_1.length : Int) := of_decide_eq_true az_; obtain ⟨ad143, e143, hx143_0, hx143_1⟩ := at_T61 HR0_1.out x3_1 p143 q143; obtain rfl : ad141 = ad143 := (by injection e143); replace hx143_0 := (HB.out.cell (World.block_lt_of_cell? w _ hx143_0)).trans hx143_0; replace hx143_1 := (HB.out.cell (World.block_lt_of_cell? w _ hx143_1)).trans hx143_1; replace p143 := eq_true p143; replace q143 := eq_true q143; have p144 : 0 ≤ (x3_1 : Int) := of_decide_eq_true az_; have q144 : x3_1 < (l0_1.length : Int) := of_decide_eq_true az_; obtain ⟨ad144, e144, hx144_0, hx144_1⟩ := at_T61 HR0_1.out x3_1 p144 q144; obtain rfl : ad141 = ad144 := (by injection e144); replace hx144_0 := (HB.out.cell (World.block_lt_of_cell? w _ hx144_0)).trans hx144_0; replace hx144_1 := (HB.out.cell (World.block_lt_of_cell? w _ hx144_1)).trans hx144_1; replace p144 := eq_true p144; replace q144 := eq_true q144; have p145 : 0 ≤ ((ji16) : Int) := of_decide_eq_true az_; have q145 : (ji16) < (l0_1.length : Int) := of_decide_eq_true az_; obtain ⟨ad145, e145, hx145_0, hx145_1⟩ := at_T61 HR0_1.out (ji16) p145 q145; obtain rfl : ad141 = ad145 := (by injection e145); replace hx145_0 := (HB.out.cell (World.block_lt_of_cell? w _ hx145_0)).trans hx145_0; replace hx145_1 := (HB.out.cell (World.block_lt_of_cell? w _ hx145_1)).trans hx145_1; replace p145 := eq_true p145; replace q145 := eq_true q145))
             repeat (go_quiet (first | (go_at_call 31; (with_reducible refine (pollardref05_Ref.calls k1 ((rd_T61 l0_1 x3_1).f0) t142 _ A11.out).mono ?_); rintro e w' ⟨rfl, ⟨nd, rfl⟩⟩; (try exact wz_); have p143 : 0 ≤ (x3_1 : Int) := of_decide_eq_true az_; have q143 : x3_1 < (l0_1.length : Int) := of_decide_eq_true az_; obtain ⟨ad143, e143, hx143_0, hx143_1⟩ := at_T61 HR0_1.out x3_1 p143 q143; obtain rfl : ad141 = ad143 := (by injection e143); replace hx143_0 := (HB.out.cell (World.block_lt_of_cell? w _ hx143_0)).trans hx143_0; replace hx143_1 := (HB.out.cell (World.block_lt_of_cell? w _ hx143_1)).trans hx143_1; replace p143 := eq_true p143; replace q143 := eq_true q143; have p144 : 0 ≤ (x3_1 : Int) := of_decide_eq_true az_; have q144 : x3_1 < (l0_1.length : Int) := of_decide_eq_true az_; obtain ⟨ad144, e144, hx144_0, hx144_1⟩ := at_T61 HR0_1.out x3_1 p144 q144; obtain rfl : ad141 = ad144 := (by injection e144); replace hx144_0 := (HB.out.cell (World.block_lt_of_cell? w _ hx144_0)).trans hx144_0; replace hx144_1 := (HB.out.cell (World.block_lt_of_cell? w _ hx144_1)).trans hx144_1; replace p144 := eq_true p144; replace q144 := eq_true q144; have p145 : 0 ≤ ((ji16) : Int) := of_decide_eq_true az_; have q145 : (ji16) < (l0_1.length : Int) := of_decide_eq_true az_; obtain ⟨ad145, e145, hx145_0, hx145_1⟩ := at_T61 HR0_1.out (ji16) p145 q145; obtain rfl : ad141 = ad145 := (by injection e145); replace hx145_0 := (HB.out.cell (World.block_lt_of_cell? w _ hx145_0)).trans hx145_0; replace hx145_1 := (HB.out.cell (World.block_lt_of_cell? w _ hx145_1)).trans hx145_1; replace p145 := eq_true p145; replace q145 := eq_true q145)); try go_wp2_with (first | (go_at_call 31; (with_reducible refine (pollardref05_Ref.calls k1 ((rd_T61 l0_1 x3_1).f0) t142 _ A11.out).mono ?_); rintro e w' ⟨rfl, ⟨nd, rfl⟩⟩; (try exact wz_); have p143 : 0 ≤ (x3_1 : Int) := of_decide_eq_true az_; have q143 : x3_1 < (l0_1.length : Int) := of_decide_eq_true az_; obtain ⟨ad143, e143, hx143_0, hx143_1⟩ := at_T61 HR0_1.out x3_1 p143 q143; obtain rfl : ad141 = ad143 := (by injection e143); replace hx143_0 := (HB.out.cell (World.block_lt_of_cell? w _ hx143_0)).trans hx143_0; replace hx143_1 := (HB.out.cell (World.block_lt_of_cell? w _ hx143_1)).trans hx143_1; replace p143 := eq_true p143; replace q143 := eq_true q143; have p144 : 0 ≤ (x3_1 : Int) := of_decide_eq_true az_; have q144 : x3_1 < (l0_1.length : Int) := of_decide_eq_true az_; obtain ⟨ad144, e144, hx144_0, hx144_1⟩ := at_T61 HR0_1.out x3_1 p144 q144; obtain rfl : ad141 = ad144 := (by injection e144); replace hx144_0 := (HB.out.cell (World.block_lt_of_cell? w _ hx144_0)).trans hx144_0; replace hx144_1 := (HB.out.cell (World.block_lt_of_cell? w _ hx144_1)).trans hx144_1; replace p144 := eq_true p144; replace q144 := eq_true q144; have p145 : 0 ≤ ((ji16) : Int) := of_decide_eq_true az_; have q145 : (ji16) < (l0_1.length : Int) := of_decide_eq_true az_; obtain ⟨ad145, e145, hx145_0, hx145_1⟩ := at_T61 HR0_1.out (ji16) p145 q145; obtain rfl : ad141 = ad145 := (by injection e145); replace hx145_0 := (HB.out.cell (World.block_lt_of_cell? w _ hx145_0)).trans hx145_0; replace hx145_1 := (HB.out.cell (World.block_lt_of_cell? w _ hx145_1)).trans hx145_1; replace p145 := eq_true p145; replace q145 := eq_true q145)))
             go_roundg k1
             case measure => have := HK1.out; omega
             case rel => exact ⟨(wrap64 (x3_1 + 1)), ez_, H', ⟨by have := HK1.out; omega⟩, ⟨kz_ BK139.out⟩, ⟨bs1_ GE139.out⟩⟩
           · rw [if_neg c18] at H
             exact absurd H (by simp)
          · rw [if_neg c17] at H
            exact absurd H (by simp)
         ·
          rw [if_neg c15] at H
          have c15b0 : decide (0 < x3_1) = false := decide_eq_false c15
          clear c15
          have H' := Aside0.mk H
          clear H
          have hcz22_0 : wr.cell? ⟨gb139, 0, none⟩ = some (.string a0_0) := (blk_cell BK139.out 0).trans rfl
          have hcz22_1 : wr.cell? ⟨gb139, 1, none⟩ = some (.slice A0_1 l0_1.length c0_1) := (blk_cell BK139.out 1).trans rfl
          have hfz22_0 := blk_frozen BK139.out 0
          have hfz22_1 := blk_frozen BK139.out 1
          have p141 : 0 ≤ (x3_1 : Int) := of_decide_eq_true az_
          have q141 : x3_1 < (l0_1.length : Int) := of_decide_eq_true az_
          obtain ⟨ad141, e141, hx141_0, hx141_1⟩ := at_T61 HR0_1.out x3_1 p141 q141
          cases e141
          replace hx141_0 := (HB.out.cell (World.block_lt_of_cell? w _ hx141_0)).trans hx141_0
          replace hx141_1 := (HB.out.cell (World.block_lt_of_cell? w _ hx141_1)).trans hx141_1
          replace p141 := eq_true p141
          replace q141 := eq_true q141
          go_wp2_with (first | (go_at_call 31; (with_reducible refine (pollardref05_Ref.calls k1 ((rd_T61 l0_1 x3_1).f0) t142 _ A11.out).mono ?_); rintro e w' ⟨rfl, ⟨nd, rfl⟩⟩; (try exact wz_); have p143 : 0 ≤ (x3_1 : Int) := of_decide_eq_true az_; have q143 : x3_1 < (l0_1.length : Int) := of_decide_eq_true az_; obtain ⟨ad143, e143, hx143_0, hx143_1⟩ := at_T61 HR0_1.out x3_1 p143 q143; obtain rfl : ad141 = ad143 := (by injection e143); replace hx143_0 := (HB.out.cell (World.block_lt_of_cell? w _ hx143_0)).trans hx143_0; replace hx143_1 := (HB.out.cell (World.block_lt_of_cell? w _ hx143_1)).trans hx143_1; replace p143 := eq_true p143; replace q143 := eq_true q143))
          repeat (go_quiet (first | (go_at_call 31; (with_reducible refine (pollardref05_Ref.calls k1 ((rd_T61 l0_1 x3_1).f0) t142 _ A11.out).mono ?_); rintro e w' ⟨rfl, ⟨nd, rfl⟩⟩; (try exact wz_); have p143 : 0 ≤ (x3_1 : Int) := of_decide_eq_true az_; have q143 : x3_1 < (l0_1.length : Int) := of_decide_eq_true az_; obtain ⟨ad143, e143, hx143_0, hx143_1⟩ := at_T61 HR0_1.out x3_1 p143 q143; obtain rfl : ad141 = ad143 := (by injection e143); replace hx143_0 := (HB.out.cell (World.block_lt_of_cell? w _ hx143_0)).trans hx143_0; replace hx143_1 := (HB.out.cell (World.block_lt_of_cell? w _ hx143_1)).trans hx143_1; replace p143 := eq_true p143; replace q143 := eq_true q143)); try go_wp2_with (first | (go_at_call 31; (with_reducible refine (pollardref05_Ref.calls k1 ((rd_T61 l0_1 x3_1).f0) t142 _ A11.out).mono ?_); rintro e w' ⟨rfl, ⟨nd, rfl⟩⟩; (try exact wz_); have p143 : 0 ≤ (x3_1 : Int) := of_decide_eq_true az_; have q143 : x3_1 < (l0_1.length : Int) := of_decide_eq_true az_; obtain ⟨ad143, e143, hx143_0, hx143_1⟩ := at_T61 HR0_1.out x3_1 p143 q143; obtain rfl : ad141 = ad143 := (by injection e143); replace hx143_0 := (HB.out.cell (World.block_lt_of_cell? w _ hx143_0)).trans hx143_0; replace hx143_1 := (HB.out.cell (World.block_lt_of_cell? w _ hx143_1)).trans hx143_1; replace p143 := eq_true p143; replace q143 := eq_true q143)))
          go_roundg k1
          case measure => have := HK1.out; omega
          case rel => exact ⟨(wrap64 (x3_1 + 1)), ez_, H', ⟨by have := HK1.out; omega⟩, ⟨kz_ BK139.out⟩, ⟨bs1_ GE139.out⟩⟩
        ·
         rw [if_neg c14] at H
         have c14b0 : ((((rd_T61 l0_1 x3_1).f1).size : Int) == 32) = false := beq_eq_false_iff_ne.mpr c14
         have c14b1 : ((((rd_T61 l0_1 x3_1).f1).size : Int) != 32) = true := bne_iff_ne.mpr c14
         obtain rfl := Option.some.inj H
         have hcz23_0 : wr.cell? ⟨gb139, 0, none⟩ = some (.string a0_0) := (blk_cell BK139.out 0).trans rfl
         have hcz23_1 : wr.cell? ⟨gb139, 1, none⟩ = some (.slice A0_1 l0_1.length c0_1) := (blk_cell BK139.out 1).trans rfl
         have hfz23_0 := blk_frozen BK139.out 0
         have hfz23_1 := blk_frozen BK139.out 1
         have p141 : 0 ≤ (x3_1 : Int) := of_decide_eq_true az_
         have q141 : x3_1 < (l0_1.length : Int) := of_decide_eq_true az_
         obtain ⟨ad141, e141, hx141_0, hx141_1⟩ := at_T61 HR0_1.out x3_1 p141 q141
         cases e141
         replace hx141_0 := (HB.out.cell (World.block_lt_of_cell? w _ hx141_0)).trans hx141_0
         replace hx141_1 := (HB.out.cell (World.block_lt_of_cell? w _ hx141_1)).trans hx141_1
         replace p141 := eq_true p141
         replace q141 := eq_true q141
         go_wp2_with (first | (go_at_call 31; (with_reducible refine (pollardref05_Ref.calls k1 ((rd_T61 l0_1 x3_1).f0) t142 _ A11.out).mono ?_); rintro e w' ⟨rfl, ⟨nd, rfl⟩⟩; (try exact wz_); have p143 : 0 ≤ (x3_1 : Int) := of_decide_eq_true az_; have q143 : x3_1 < (l0_1.length : Int) := of_decide_eq_true az_; obtain ⟨ad143, e143, hx143_0, hx143_1⟩ := at_T61 HR0_1.out x3_1 p143 q143; obtain rfl : ad141 = ad143 := (by injection e143); replace hx143_0 := (HB.out.cell (World.block_lt_of_cell? w _ hx143_0)).trans hx143_0; replace hx143_1 := (HB.out.cell (World.block_lt_of_cell? w _ hx143_1)).trans hx143_1; replace p143 := eq_true p143; replace q143 := eq_true q143))
         repeat (go_quiet (first | (go_at_call 31; (with_reducible refine (pollardref05_Ref.calls k1 ((rd_T61 l0_1 x3_1).f0) t142 _ A11.out).mono ?_); rintro e w' ⟨rfl, ⟨nd, rfl⟩⟩; (try exact wz_); have p143 : 0 ≤ (x3_1 : Int) := of_decide_eq_true az_; have q143 : x3_1 < (l0_1.length : Int) := of_decide_eq_true az_; obtain ⟨ad143, e143, hx143_0, hx143_1⟩ := at_T61 HR0_1.out x3_1 p143 q143; obtain rfl : ad141 = ad143 := (by injection e143); replace hx143_0 := (HB.out.cell (World.block_lt_of_cell? w _ hx143_0)).trans hx143_0; replace hx143_1 := (HB.out.cell (World.block_lt_of_cell? w _ hx143_1)).trans hx143_1; replace p143 := eq_true p143; replace q143 := eq_true q143)); try go_wp2_with (first | (go_at_call 31; (with_reducible refine (pollardref05_Ref.calls k1 ((rd_T61 l0_1 x3_1).f0) t142 _ A11.out).mono ?_); rintro e w' ⟨rfl, ⟨nd, rfl⟩⟩; (try exact wz_); have p143 : 0 ≤ (x3_1 : Int) := of_decide_eq_true az_; have q143 : x3_1 < (l0_1.length : Int) := of_decide_eq_true az_; obtain ⟨ad143, e143, hx143_0, hx143_1⟩ := at_T61 HR0_1.out x3_1 p143 q143; obtain rfl : ad141 = ad143 := (by injection e143); replace hx143_0 := (HB.out.cell (World.block_lt_of_cell? w _ hx143_0)).trans hx143_0; replace hx143_1 := (HB.out.cell (World.block_lt_of_cell? w _ hx143_1)).trans hx143_1; replace p143 := eq_true p143; replace q143 := eq_true q143)))
         go_ret
         exact ⟨xz_, bs1_ GE139.out⟩
      · rw [if_neg c10] at H
        exact absurd H (by simp)
     · rw [if_neg c9] at H
       have c9b0 : decide (x3_1 < (l0_1.length : Int)) = false := decide_eq_false c9
       clear c9
       obtain rfl := Option.some.inj H
       have hcz24_0 : wr.cell? ⟨gb139, 0, none⟩ = some (.string a0_0) := (blk_cell BK139.out 0).trans rfl
       have hcz24_1 : wr.cell? ⟨gb139, 1, none⟩ = some (.slice A0_1 l0_1.length c0_1) := (blk_cell BK139.out 1).trans rfl
       have hfz24_0 := blk_frozen BK139.out 0
       have hfz24_1 := blk_frozen BK139.out 1
       go_wp2
       repeat (go_quiet (fail); try go_wp2)
       go_ret
       exact ⟨xz_, bs1_ GE139.out⟩
  · rw [if_neg c6] at H
    have c6b0 : (t140 == 1) = false := beq_eq_false_iff_ne.mpr c6
    have c6b1 : (t140 != 1) = true := bne_iff_ne.mpr c6
    obtain rfl := Option.some.inj H
    go_enter Try.func16, Try.ntmps16
    go_wp2_with (first | ((with_reducible refine gate_dst (N := 1) rfl ?_); refine box_event ?hg (N := 1) ?hd (cs := #[.string a0_0, .slice A0_1 l0_1.length c0_1]) (t := 30) ?hr ?_; (case hd => rfl); (case hg => rfl); (case hr => first | (go_simp; done) | (go_simp; rfl)); intro gb139 hg w25 hbox hb; have n0_ := Aside0.mk (below_step bz_ hb); have n1_ := Aside0.mk (hbox); have n2_ := Aside0.mk ((by rw [hg]; exact (below_size bz_) : w.heap.size ≤ gb139)); have n3_ := Aside0.mk ((by rw [hg]; exact (below_size bz_) : w.heap.size ≤ gb139)); clear HB; have HB := n0_; have BK139 := n1_; have GW139 := n2_; have GE139 := n3_; clear n0_ n1_ n2_ n3_; clear hb hbox hg; have hcz26_0 : w25.cell? ⟨gb139, 0, none⟩ = some (.string a0_0) := (blk_cell BK139.out 0).trans rfl; have hcz26_1 : w25.cell? ⟨gb139, 1, none⟩ = some (.slice A0_1 l0_1.length c0_1) := (blk_cell BK139.out 1).trans rfl; have hfz26_0 := blk_frozen BK139.out 0; have hfz26_1 := blk_frozen BK139.out 1) | (go_at_call 31; (with_reducible refine (pollardref05_Ref.calls k a0_0 t140 _ A5.out).mono ?_); rintro e w' ⟨rfl, ⟨nd, rfl⟩⟩; (try exact wz_)))
    repeat (go_quiet (first | ((with_reducible refine gate_dst (N := 1) rfl ?_); refine box_event ?hg (N := 1) ?hd (cs := #[.string a0_0, .slice A0_1 l0_1.length c0_1]) (t := 30) ?hr ?_; (case hd => rfl); (case hg => rfl); (case hr => first | (go_simp; done) | (go_simp; rfl)); intro gb139 hg w25 hbox hb; have n0_ := Aside0.mk (below_step bz_ hb); have n1_ := Aside0.mk (hbox); have n2_ := Aside0.mk ((by rw [hg]; exact (below_size bz_) : w.heap.size ≤ gb139)); have n3_ := Aside0.mk ((by rw [hg]; exact (below_size bz_) : w.heap.size ≤ gb139)); clear HB; have HB := n0_; have BK139 := n1_; have GW139 := n2_; have GE139 := n3_; clear n0_ n1_ n2_ n3_; clear hb hbox hg; have hcz26_0 : w25.cell? ⟨gb139, 0, none⟩ = some (.string a0_0) := (blk_cell BK139.out 0).trans rfl; have hcz26_1 : w25.cell? ⟨gb139, 1, none⟩ = some (.slice A0_1 l0_1.length c0_1) := (blk_cell BK139.out 1).trans rfl; have hfz26_0 := blk_frozen BK139.out 0; have hfz26_1 := blk_frozen BK139.out 1) | (go_at_call 31; (with_reducible refine (pollardref05_Ref.calls k a0_0 t140 _ A5.out).mono ?_); rintro e w' ⟨rfl, ⟨nd, rfl⟩⟩; (try exact wz_))); try go_wp2_with (first | ((with_reducible refine gate_dst (N := 1) rfl ?_); refine box_event ?hg (N := 1) ?hd (cs := #[.string a0_0, .slice A0_1 l0_1.length c0_1]) (t := 30) ?hr ?_; (case hd => rfl); (case hg => rfl); (case hr => first | (go_simp; done) | (go_simp; rfl)); intro gb139 hg w25 hbox hb; have n0_ := Aside0.mk (below_step bz_ hb); have n1_ := Aside0.mk (hbox); have n2_ := Aside0.mk ((by rw [hg]; exact (below_size bz_) : w.heap.size ≤ gb139)); have n3_ := Aside0.mk ((by rw [hg]; exact (below_size bz_) : w.heap.size ≤ gb139)); clear HB; have HB := n0_; have BK139 := n1_; have GW139 := n2_; have GE139 := n3_; clear n0_ n1_ n2_ n3_; clear hb hbox hg; have hcz26_0 : w25.cell? ⟨gb139, 0, none⟩ = some (.string a0_0) := (blk_cell BK139.out 0).trans rfl; have hcz26_1 : w25.cell? ⟨gb139, 1, none⟩ = some (.slice A0_1 l0_1.length c0_1) := (blk_cell BK139.out 1).trans rfl; have hfz26_0 := blk_frozen BK139.out 0; have hfz26_1 := blk_frozen BK139.out 1) | (go_at_call 31; (with_reducible refine (pollardref05_Ref.calls k a0_0 t140 _ A5.out).mono ?_); rintro e w' ⟨rfl, ⟨nd, rfl⟩⟩; (try exact wz_))))
    go_ret
    exact ⟨xz_, bs1_ GE139.out⟩

/-! ### pollardref13_Ways_Forward: function 10 -/
def pollardref13_Ways_Forward.l0 : Nat → List (S37) → ByteArray → ByteArray → Int → Option (Bool)
 | 0, _, _, _, _ => none
 | k + 1, x0, x1, x2, x7 => if x7 < (x0.length : Int) then (if 0 ≤ x7 then (if ((rd_T37 x0 x7).f0).toList = x1.toList then (if ((rd_T37 x0 x7).f1).toList = x2.toList then (some true) else (pollardref13_Ways_Forward.l0 k x0 x1 x2 (wrap64 (x7 + 1)))) else (pollardref13_Ways_Forward.l0 k x0 x1 x2 (wrap64 (x7 + 1)))) else (none)) else (some false)
def pollardref13_Ways_Forward.f (k : Nat) (l0 : List (S37)) (a1 : ByteArray) (a2 : ByteArray) : Option (Bool) := pollardref13_Ways_Forward.l0 k l0 a1 a2 0
theorem pollardref13_Ways_Forward.mono_l : ∀ k, (∀ y0 y1 y2 y3, LeO (pollardref13_Ways_Forward.l0 k y0 y1 y2 y3) (pollardref13_Ways_Forward.l0 (k + 1) y0 y1 y2 y3))
 | 0 => fun _ _ _ _ r h => by simp [pollardref13_Ways_Forward.l0] at h
 | k + 1 => by
  have ih0 := pollardref13_Ways_Forward.mono_l k
  · intro y0 y1 y2 y3
    unfold pollardref13_Ways_Forward.l0
    repeat' with_reducible first | exact ih0 _ _ _ _ | exact LeO.refl _ | exact LeO.none _ | refine LeO.ite ?_ ?_ | refine LeO.bind ?_ (fun _ => ?_)
theorem pollardref13_Ways_Forward.mono : ∀ a0 a1 a2 k, LeO (pollardref13_Ways_Forward.f k a0 a1 a2) (pollardref13_Ways_Forward.f (k + 1) a0 a1 a2) := by
 intro a0 a1 a2 k
 have ih0 := pollardref13_Ways_Forward.mono_l k
 unfold pollardref13_Ways_Forward.f
 repeat' with_reducible first | exact ih0 _ _ _ _ | exact LeO.refl _ | exact LeO.none _ | refine LeO.ite ?_ ?_ | refine LeO.bind ?_ (fun _ => ?_)
set_option maxHeartbeats 8000000 in
set_option maxRecDepth 100000 in
theorem pollardref13_Ways_Forward.calls (k : Nat) (A0 : Option Addr) (c0 : Nat) (l0 : List (S37)) (a1 : ByteArray) (a2 : ByteArray) (r : Bool) (w : World) (hr0 : Kd.C k37 w A0 l0.length l0) (hc0 : l0.length ≤ c0) (h : pollardref13_Ways_Forward.f k l0 a1 a2 = some r) :
 Calls Try.prog 10 #[.slice A0 l0.length c0, .string a1, .string a2] w fun e w' => e = .returned (.bool r) ∧ Drawn0 w w' := by
 have HR0 := Aside0.mk hr0
 have HC0 := Aside0.mk hc0
 clear hr0 hc0
 have H : (pollardref13_Ways_Forward.l0 k l0 a1 a2 0) = some r := h
 clear h
 have H' := Aside0.mk H
 clear H
 go_enter Try.func10, Try.ntmps10
 go_wp2
 go_loopg [7] k (fun kq v7 w' => ∃ (x7_1 : Int), v7 = .int .i64 x7_1 ∧ Aside0 (pollardref13_Ways_Forward.l0 kq l0 a1 a2 x7_1 = some r) ∧ Aside0 (kq ≤ k) ∧ Drawn0 w w')
 case atStart => exact ⟨(0), ez_, H', ⟨Nat.le_refl _⟩, dz_⟩
 case round =>
  clear H'
  try clear c1
  try clear p2
  obtain ⟨x7_1, rfl, HA, HK1, ⟨m1, rfl⟩⟩ := hrel
  cases gk with
  | zero => exact absurd HA.out (by simp [pollardref13_Ways_Forward.l0])
  | succ k1 =>
   have H := HA.out
   clear HA
   simp only [pollardref13_Ways_Forward.l0] at H
   by_cases c4 : x7_1 < (l0.length : Int)
   ·
    rw [if_pos c4] at H
    have c4b0 : decide (x7_1 < (l0.length : Int)) = true := decide_eq_true c4
    clear c4
    by_cases c5 : 0 ≤ x7_1
    ·
     rw [if_pos c5] at H
     have c5b0 : decide (0 ≤ x7_1) = true := decide_eq_true c5
     clear c5
     by_cases c6 : ((rd_T37 l0 x7_1).f0).toList = a1.toList
     ·
      rw [if_pos c6] at H
      have c6b0 : (((rd_T37 l0 x7_1).f0).toList == a1.toList) = true := beq_iff_eq.mpr c6
      have c6b1 : (((rd_T37 l0 x7_1).f0).toList != a1.toList) = false := bne_eq_false_iff_eq.mpr c6
      clear c6
      by_cases c7 : ((rd_T37 l0 x7_1).f1).toList = a2.toList
      ·
       rw [if_pos c7] at H
       have c7b0 : (((rd_T37 l0 x7_1).f1).toList == a2.toList) = true := beq_iff_eq.mpr c7
       have c7b1 : (((rd_T37 l0 x7_1).f1).toList != a2.toList) = false := bne_eq_false_iff_eq.mpr c7
       clear c7
       obtain rfl := Option.some.inj H
       have p146 : 0 ≤ (x7_1 : Int) := of_decide_eq_true az_
       have q146 : x7_1 < (l0.length : Int) := of_decide_eq_true az_
       obtain ⟨ad146, e146, hx146_0, hx146_1⟩ := at_T37 HR0.out x7_1 p146 q146
       cases e146
       replace p146 := eq_true p146
       replace q146 := eq_true q146
       have p147 : 0 ≤ (x7_1 : Int) := of_decide_eq_true az_
       have q147 : x7_1 < (l0.length : Int) := of_decide_eq_true az_
       obtain ⟨ad147, e147, hx147_0, hx147_1⟩ := at_T37 HR0.out x7_1 p147 q147
       obtain rfl : ad146 = ad147 := (by injection e147)
       replace p147 := eq_true p147
       replace q147 := eq_true q147
       go_wp2
       go_ret
       exact ⟨ez_, dz_⟩
      ·
       rw [if_neg c7] at H
       have c7b0 : (((rd_T37 l0 x7_1).f1).toList == a2.toList) = false := beq_eq_false_iff_ne.mpr c7
       have c7b1 : (((rd_T37 l0 x7_1).f1).toList != a2.toList) = true := bne_iff_ne.mpr c7
       have H' := Aside0.mk H
       clear H
       have p146 : 0 ≤ (x7_1 : Int) := of_decide_eq_true az_
       have q146 : x7_1 < (l0.length : Int) := of_decide_eq_true az_
       obtain ⟨ad146, e146, hx146_0, hx146_1⟩ := at_T37 HR0.out x7_1 p146 q146
       cases e146
       replace p146 := eq_true p146
       replace q146 := eq_true q146
       have p147 : 0 ≤ (x7_1 : Int) := of_decide_eq_true az_
       have q147 : x7_1 < (l0.length : Int) := of_decide_eq_true az_
       obtain ⟨ad147, e147, hx147_0, hx147_1⟩ := at_T37 HR0.out x7_1 p147 q147
       obtain rfl : ad146 = ad147 := (by injection e147)
       replace p147 := eq_true p147
       replace q147 := eq_true q147
       go_wp2
       go_roundg k1
       case measure => have := HK1.out; omega
       case rel => exact ⟨(wrap64 (x7_1 + 1)), ez_, H', ⟨by have := HK1.out; omega⟩, dz_⟩
     ·
      rw [if_neg c6] at H
      have c6b0 : (((rd_T37 l0 x7_1).f0).toList == a1.toList) = false := beq_eq_false_iff_ne.mpr c6
      have c6b1 : (((rd_T37 l0 x7_1).f0).toList != a1.toList) = true := bne_iff_ne.mpr c6
      have H' := Aside0.mk H
      clear H
      have p146 : 0 ≤ (x7_1 : Int) := of_decide_eq_true az_
      have q146 : x7_1 < (l0.length : Int) := of_decide_eq_true az_
      obtain ⟨ad146, e146, hx146_0, hx146_1⟩ := at_T37 HR0.out x7_1 p146 q146
      cases e146
      replace p146 := eq_true p146
      replace q146 := eq_true q146
      go_wp2
      go_roundg k1
      case measure => have := HK1.out; omega
      case rel => exact ⟨(wrap64 (x7_1 + 1)), ez_, H', ⟨by have := HK1.out; omega⟩, dz_⟩
    · rw [if_neg c5] at H
      exact absurd H (by simp)
   · rw [if_neg c4] at H
     have c4b0 : decide (x7_1 < (l0.length : Int)) = false := decide_eq_false c4
     clear c4
     obtain rfl := Option.some.inj H
     go_wp2
     go_ret
     exact ⟨ez_, dz_⟩

end Go.Proofs.Ytgepbdkbleapaaa.M
