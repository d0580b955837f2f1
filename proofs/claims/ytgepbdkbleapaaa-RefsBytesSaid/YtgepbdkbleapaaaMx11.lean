/- The program's functions as plain functions, and that each call comes to what these tell; written by a program of this session, some contracts by hand. Conditions: none. -/
import Derived.Test.YtgepbdkbleapaaaMx0
import Derived.Test.YtgepbdkbleapaaaMx10
namespace Go.Proofs.Ytgepbdkbleapaaa.M
open Go.RowKit Go.Proofs.YtgepbdkbleapaaaW.PrintWords Go.Proofs.YtgepbdkbleapaaaW.PrintLast Go.Proofs.YtgepbdkbleapaaaW.PrintMore
attribute [local go_sem] max2_int min2_int max_two min_two max_three min_three max_four min_four   -- for this text's walks alone
set_option linter.unusedVariables false
set_option linter.unusedSimpArgs false

/-! ### pollardref13_Check: function 16 -/
def pollardref13_Check.l0 : Nat → Int → ByteArray → List (S61) → Option (Int)
 | 0, _, _, _ => none
 | k + 1, x3, x179000, x179001 => if x3 < (x179001.length : Int) then (if 0 ≤ x3 then ((pollardref05_Ref.f k ((rd_T61 x179001 x3).f0)).bind fun t181 => (if t181 = 0 then (some 50) else (if (((rd_T61 x179001 x3).f1).size : Int) = 32 then (if x3 > 0 then (if 0 ≤ (wrap64 (x3 - 1)) then (if (wrap64 (x3 - 1)) < (x179001.length : Int) then (if (Op.bytesLess (((rd_T61 x179001 x3).f0).toList) (((rd_T61 x179001 (wrap64 (x3 - 1))).f0).toList) || (((rd_T61 x179001 x3).f0).toList) == (((rd_T61 x179001 (wrap64 (x3 - 1))).f0).toList)) = true then (some 61) else (pollardref13_Check.l0 k (wrap64 (x3 + 1)) x179000 x179001)) else (none)) else (none)) else (pollardref13_Check.l0 k (wrap64 (x3 + 1)) x179000 x179001)) else (some 6)))) else (none)) else (some 0)
def pollardref13_Check.f (k : Nat) (a0_0 : ByteArray) (l0_1 : List (S61)) : Option (Int) := if (l0_1.length : Int) > 256 then (some 3) else ((pollardref05_Ref.f k a0_0).bind fun t179 => (if t179 = 1 then (pollardref13_Check.l0 k 0 a0_0 l0_1) else (some 50)))
theorem pollardref13_Check.mono_l : ∀ k, (∀ y0 y1 y2, LeO (pollardref13_Check.l0 k y0 y1 y2) (pollardref13_Check.l0 (k + 1) y0 y1 y2))
 | 0 => fun _ _ _ r h => by simp [pollardref13_Check.l0] at h
 | k + 1 => by
  have ih0 := pollardref13_Check.mono_l k
  ·
   intro y0 y1 y2
   unfold pollardref13_Check.l0
   repeat' first
   | (with_reducible exact ih0 _ _ _)
   | (with_reducible exact pollardref05_Ref.mono _ _)
   | (with_reducible exact LeO.refl _)
   | (with_reducible exact LeO.none _)
   | (with_reducible refine LeO.ite ?_ ?_)
   | (with_reducible refine LeO.bind ?_ (fun _ => ?_))
   | exact ih0 _ _ _
   | exact pollardref05_Ref.mono _ _
   | exact LeO.none _
   | refine LeO.ite ?_ ?_
   | refine LeO.bind ?_ (fun _ => ?_)
theorem pollardref13_Check.mono : ∀ a0 a1 k, LeO (pollardref13_Check.f k a0 a1) (pollardref13_Check.f (k + 1) a0 a1) := by
 intro a0 a1 k
 have ih0 := pollardref13_Check.mono_l k
 unfold pollardref13_Check.f
 repeat' first
  | (with_reducible exact ih0 _ _ _)
  | (with_reducible exact pollardref05_Ref.mono _ _)
  | (with_reducible exact LeO.refl _)
  | (with_reducible exact LeO.none _)
  | (with_reducible refine LeO.ite ?_ ?_)
  | (with_reducible refine LeO.bind ?_ (fun _ => ?_))
  | exact ih0 _ _ _
  | exact pollardref05_Ref.mono _ _
  | exact LeO.none _
  | refine LeO.ite ?_ ?_
  | refine LeO.bind ?_ (fun _ => ?_)
set_option maxHeartbeats 8000000 in
set_option maxRecDepth 100000 in
theorem pollardref13_Check.calls (k : Nat) (a0_0 : ByteArray) (A0_1 : Option Addr) (c0_1 : Nat) (l0_1 : List (S61)) (r : Int) (w : World) (hr0_1 : Kd.C k61 w A0_1 l0_1.length l0_1) (hc0_1 : l0_1.length ≤ c0_1) (h : pollardref13_Check.f k a0_0 l0_1 = some r) :
 Calls Try.prog 16 #[.agg #[.string a0_0, .slice A0_1 l0_1.length c0_1]] w fun e w' => e = .returned (.int .i64 r) ∧ Below w.heap.size w w' := by
 have hu30 := Try.underlying30
 have HR0_1 := Aside0.mk hr0_1
 have HC0_1 := Aside0.mk hc0_1
 clear hr0_1 hc0_1
 have HB := Aside0.mk (Below.refl w.heap.size w)
 have H : (if (l0_1.length : Int) > 256 then (some 3) else ((pollardref05_Ref.f k a0_0).bind fun t179 => (if t179 = 1 then (pollardref13_Check.l0 k 0 a0_0 l0_1) else (some 50)))) = some r := h
 clear h
 by_cases c2 : (l0_1.length : Int) > 256
 · rw [if_pos c2] at H
   have c2b0 : decide (256 < (l0_1.length : Int)) = true := decide_eq_true c2
   have c2b1 : decide (256 < l0_1.length) = true := decide_eq_true (by omega)
   clear c2
   obtain rfl := Option.some.inj H
   go_enter Try.func16, Try.ntmps16
   go_wp2_with (first | ((with_reducible refine gate_dst (N := 1) rfl ?_); refine box_event ?hg (N := 1) ?hd (cs := #[.string a0_0, .slice A0_1 l0_1.length c0_1]) (t := 30) ?hr ?_; (case hd => rfl); (case hg => rfl); (case hr => first | (go_simp; done) | (go_simp; rfl) | (go_simp; simp only [show ∀ x_ : Int, IntKind.u8.wrap x_ = x_ % 256 from fun _ => rfl, Int.add_emod_emod, Int.emod_add_emod, Int.emod_emod]; done)); intro gb178 hg w3 hbox hb; have n0_ := Aside0.mk (below_step (by repeat (first | (with_reducible first | exact HB.out | apply below_alloc | apply pw_below_drewN | apply below_drew1) | exact HB.out)) hb); have n1_ := Aside0.mk (hbox); have n2_ := Aside0.mk ((by rw [hg]; exact (below_size (by repeat (first | (with_reducible first | exact HB.out | apply below_alloc | apply pw_below_drewN | apply below_drew1) | exact HB.out))) : w.heap.size ≤ gb178)); have n3_ := Aside0.mk ((by rw [hg]; exact (below_size (by repeat (first | (with_reducible first | exact HB.out | apply below_alloc | apply pw_below_drewN | apply below_drew1) | exact HB.out))) : w.heap.size ≤ gb178)); clear HB; have HB := n0_; have BK178 := n1_; have GW178 := n2_; have GE178 := n3_; clear n0_ n1_ n2_ n3_; clear hb hbox hg; have hcz4_0 : w3.cell? ⟨gb178, 0, none⟩ = some (.string a0_0) := (blk_cell BK178.out 0).trans rfl; have hcz4_1 : w3.cell? ⟨gb178, 1, none⟩ = some (.slice A0_1 l0_1.length c0_1) := (blk_cell BK178.out 1).trans rfl; have hfz4_0 := blk_frozen BK178.out 0; have hfz4_1 := blk_frozen BK178.out 1))
   repeat (go_quiet (first | ((with_reducible refine gate_dst (N := 1) rfl ?_); refine box_event ?hg (N := 1) ?hd (cs := #[.string a0_0, .slice A0_1 l0_1.length c0_1]) (t := 30) ?hr ?_; (case hd => rfl); (case hg => rfl); (case hr => first | (go_simp; done) | (go_simp; rfl) | (go_simp; simp only [show ∀ x_ : Int, IntKind.u8.wrap x_ = x_ % 256 from fun _ => rfl, Int.add_emod_emod, Int.emod_add_emod, Int.emod_emod]; done)); intro gb178 hg w3 hbox hb; have n0_ := Aside0.mk (below_step (by repeat (first | (with_reducible first | exact HB.out | apply below_alloc | apply pw_below_drewN | apply below_drew1) | exact HB.out)) hb); have n1_ := Aside0.mk (hbox); have n2_ := Aside0.mk ((by rw [hg]; exact (below_size (by repeat (first | (with_reducible first | exact HB.out | apply below_alloc | apply pw_below_drewN | apply below_drew1) | exact HB.out))) : w.heap.size ≤ gb178)); have n3_ := Aside0.mk ((by rw [hg]; exact (below_size (by repeat (first | (with_reducible first | exact HB.out | apply below_alloc | apply pw_below_drewN | apply below_drew1) | exact HB.out))) : w.heap.size ≤ gb178)); clear HB; have HB := n0_; have BK178 := n1_; have GW178 := n2_; have GE178 := n3_; clear n0_ n1_ n2_ n3_; clear hb hbox hg; have hcz4_0 : w3.cell? ⟨gb178, 0, none⟩ = some (.string a0_0) := (blk_cell BK178.out 0).trans rfl; have hcz4_1 : w3.cell? ⟨gb178, 1, none⟩ = some (.slice A0_1 l0_1.length c0_1) := (blk_cell BK178.out 1).trans rfl; have hfz4_0 := blk_frozen BK178.out 0; have hfz4_1 := blk_frozen BK178.out 1)); try go_wp2_with (first | ((with_reducible refine gate_dst (N := 1) rfl ?_); refine box_event ?hg (N := 1) ?hd (cs := #[.string a0_0, .slice A0_1 l0_1.length c0_1]) (t := 30) ?hr ?_; (case hd => rfl); (case hg => rfl); (case hr => first | (go_simp; done) | (go_simp; rfl) | (go_simp; simp only [show ∀ x_ : Int, IntKind.u8.wrap x_ = x_ % 256 from fun _ => rfl, Int.add_emod_emod, Int.emod_add_emod, Int.emod_emod]; done)); intro gb178 hg w3 hbox hb; have n0_ := Aside0.mk (below_step (by repeat (first | (with_reducible first | exact HB.out | apply below_alloc | apply pw_below_drewN | apply below_drew1) | exact HB.out)) hb); have n1_ := Aside0.mk (hbox); have n2_ := Aside0.mk ((by rw [hg]; exact (below_size (by repeat (first | (with_reducible first | exact HB.out | apply below_alloc | apply pw_below_drewN | apply below_drew1) | exact HB.out))) : w.heap.size ≤ gb178)); have n3_ := Aside0.mk ((by rw [hg]; exact (below_size (by repeat (first | (with_reducible first | exact HB.out | apply below_alloc | apply pw_below_drewN | apply below_drew1) | exact HB.out))) : w.heap.size ≤ gb178)); clear HB; have HB := n0_; have BK178 := n1_; have GW178 := n2_; have GE178 := n3_; clear n0_ n1_ n2_ n3_; clear hb hbox hg; have hcz4_0 : w3.cell? ⟨gb178, 0, none⟩ = some (.string a0_0) := (blk_cell BK178.out 0).trans rfl; have hcz4_1 : w3.cell? ⟨gb178, 1, none⟩ = some (.slice A0_1 l0_1.length c0_1) := (blk_cell BK178.out 1).trans rfl; have hfz4_0 := blk_frozen BK178.out 0; have hfz4_1 := blk_frozen BK178.out 1)))
   go_ret
   exact ⟨by first | rfl | (simp [errW_none, errW_some] <;> rfl) | (simp [*, errW_none, errW_some] <;> rfl), by repeat (first | (with_reducible first | exact HB.out | apply below_alloc | apply pw_below_drewN | apply below_drew1 | refine below_set ?_ GE178.out) | exact HB.out)⟩
 ·
  rw [if_neg c2] at H
  have c2b0 : decide (256 < (l0_1.length : Int)) = false := decide_eq_false c2
  have c2b1 : decide (256 < l0_1.length) = false := decide_eq_false (by omega)
  clear c2
  replace H := Option.bind_eq_some_iff.mp H
  obtain ⟨t179, A50, H⟩ := H
  replace H : (if t179 = 1 then (pollardref13_Check.l0 k 0 a0_0 l0_1) else (some 50)) = some r := H
  have A5 := Aside0.mk A50
  clear A50
  by_cases c6 : t179 = 1
  ·
   rw [if_pos c6] at H
   have c6b0 : (t179 == 1) = true := beq_iff_eq.mpr c6
   have c6b1 : (t179 != 1) = false := bne_eq_false_iff_eq.mpr c6
   clear c6
   have H' := Aside0.mk H
   clear H
   go_enter Try.func16, Try.ntmps16
   go_wp2_with (first | ((with_reducible refine gate_dst (N := 1) rfl ?_); refine box_event ?hg (N := 1) ?hd (cs := #[.string a0_0, .slice A0_1 l0_1.length c0_1]) (t := 30) ?hr ?_; (case hd => rfl); (case hg => rfl); (case hr => first | (go_simp; done) | (go_simp; rfl) | (go_simp; simp only [show ∀ x_ : Int, IntKind.u8.wrap x_ = x_ % 256 from fun _ => rfl, Int.add_emod_emod, Int.emod_add_emod, Int.emod_emod]; done)); intro gb178 hg w7 hbox hb; have n0_ := Aside0.mk (below_step (by repeat (first | (with_reducible first | exact HB.out | apply below_alloc | apply pw_below_drewN | apply below_drew1) | exact HB.out)) hb); have n1_ := Aside0.mk (hbox); have n2_ := Aside0.mk ((by rw [hg]; exact (below_size (by repeat (first | (with_reducible first | exact HB.out | apply below_alloc | apply pw_below_drewN | apply below_drew1) | exact HB.out))) : w.heap.size ≤ gb178)); have n3_ := Aside0.mk ((by rw [hg]; exact (below_size (by repeat (first | (with_reducible first | exact HB.out | apply below_alloc | apply pw_below_drewN | apply below_drew1) | exact HB.out))) : w.heap.size ≤ gb178)); clear HB; have HB := n0_; have BK178 := n1_; have GW178 := n2_; have GE178 := n3_; clear n0_ n1_ n2_ n3_; clear hb hbox hg; have hcz8_0 : w7.cell? ⟨gb178, 0, none⟩ = some (.string a0_0) := (blk_cell BK178.out 0).trans rfl; have hcz8_1 : w7.cell? ⟨gb178, 1, none⟩ = some (.slice A0_1 l0_1.length c0_1) := (blk_cell BK178.out 1).trans rfl; have hfz8_0 := blk_frozen BK178.out 0; have hfz8_1 := blk_frozen BK178.out 1) | (go_at_call 31; (with_reducible refine (pollardref05_Ref.calls k a0_0 t179 _ A5.out).mono ?_); rintro e w' ⟨rfl, ⟨nd, rfl⟩⟩; (try first | exact ⟨rfl, _, World.drewN_drewN _ _ _⟩ | exact ⟨rfl, _, Eq.trans (World.drewN_drewN _ _ _) (congrArg (World.drewN _) (Nat.add_assoc _ _ _))⟩)))
   repeat (go_quiet (first | ((with_reducible refine gate_dst (N := 1) rfl ?_); refine box_event ?hg (N := 1) ?hd (cs := #[.string a0_0, .slice A0_1 l0_1.length c0_1]) (t := 30) ?hr ?_; (case hd => rfl); (case hg => rfl); (case hr => first | (go_simp; done) | (go_simp; rfl) | (go_simp; simp only [show ∀ x_ : Int, IntKind.u8.wrap x_ = x_ % 256 from fun _ => rfl, Int.add_emod_emod, Int.emod_add_emod, Int.emod_emod]; done)); intro gb178 hg w7 hbox hb; have n0_ := Aside0.mk (below_step (by repeat (first | (with_reducible first | exact HB.out | apply below_alloc | apply pw_below_drewN | apply below_drew1) | exact HB.out)) hb); have n1_ := Aside0.mk (hbox); have n2_ := Aside0.mk ((by rw [hg]; exact (below_size (by repeat (first | (with_reducible first | exact HB.out | apply below_alloc | apply pw_below_drewN | apply below_drew1) | exact HB.out))) : w.heap.size ≤ gb178)); have n3_ := Aside0.mk ((by rw [hg]; exact (below_size (by repeat (first | (with_reducible first | exact HB.out | apply below_alloc | apply pw_below_drewN | apply below_drew1) | exact HB.out))) : w.heap.size ≤ gb178)); clear HB; have HB := n0_; have BK178 := n1_; have GW178 := n2_; have GE178 := n3_; clear n0_ n1_ n2_ n3_; clear hb hbox hg; have hcz8_0 : w7.cell? ⟨gb178, 0, none⟩ = some (.string a0_0) := (blk_cell BK178.out 0).trans rfl; have hcz8_1 : w7.cell? ⟨gb178, 1, none⟩ = some (.slice A0_1 l0_1.length c0_1) := (blk_cell BK178.out 1).trans rfl; have hfz8_0 := blk_frozen BK178.out 0; have hfz8_1 := blk_frozen BK178.out 1) | (go_at_call 31; (with_reducible refine (pollardref05_Ref.calls k a0_0 t179 _ A5.out).mono ?_); rintro e w' ⟨rfl, ⟨nd, rfl⟩⟩; (try first | exact ⟨rfl, _, World.drewN_drewN _ _ _⟩ | exact ⟨rfl, _, Eq.trans (World.drewN_drewN _ _ _) (congrArg (World.drewN _) (Nat.add_assoc _ _ _))⟩))); try go_wp2_with (first | ((with_reducible refine gate_dst (N := 1) rfl ?_); refine box_event ?hg (N := 1) ?hd (cs := #[.string a0_0, .slice A0_1 l0_1.length c0_1]) (t := 30) ?hr ?_; (case hd => rfl); (case hg => rfl); (case hr => first | (go_simp; done) | (go_simp; rfl) | (go_simp; simp only [show ∀ x_ : Int, IntKind.u8.wrap x_ = x_ % 256 from fun _ => rfl, Int.add_emod_emod, Int.emod_add_emod, Int.emod_emod]; done)); intro gb178 hg w7 hbox hb; have n0_ := Aside0.mk (below_step (by repeat (first | (with_reducible first | exact HB.out | apply below_alloc | apply pw_below_drewN | apply below_drew1) | exact HB.out)) hb); have n1_ := Aside0.mk (hbox); have n2_ := Aside0.mk ((by rw [hg]; exact (below_size (by repeat (first | (with_reducible first | exact HB.out | apply below_alloc | apply pw_below_drewN | apply below_drew1) | exact HB.out))) : w.heap.size ≤ gb178)); have n3_ := Aside0.mk ((by rw [hg]; exact (below_size (by repeat (first | (with_reducible first | exact HB.out | apply below_alloc | apply pw_below_drewN | apply below_drew1) | exact HB.out))) : w.heap.size ≤ gb178)); clear HB; have HB := n0_; have BK178 := n1_; have GW178 := n2_; have GE178 := n3_; clear n0_ n1_ n2_ n3_; clear hb hbox hg; have hcz8_0 : w7.cell? ⟨gb178, 0, none⟩ = some (.string a0_0) := (blk_cell BK178.out 0).trans rfl; have hcz8_1 : w7.cell? ⟨gb178, 1, none⟩ = some (.slice A0_1 l0_1.length c0_1) := (blk_cell BK178.out 1).trans rfl; have hfz8_0 := blk_frozen BK178.out 0; have hfz8_1 := blk_frozen BK178.out 1) | (go_at_call 31; (with_reducible refine (pollardref05_Ref.calls k a0_0 t179 _ A5.out).mono ?_); rintro e w' ⟨rfl, ⟨nd, rfl⟩⟩; (try first | exact ⟨rfl, _, World.drewN_drewN _ _ _⟩ | exact ⟨rfl, _, Eq.trans (World.drewN_drewN _ _ _) (congrArg (World.drewN _) (Nat.add_assoc _ _ _))⟩))))
   go_loopg [3] k (fun kq v3 w' => ∃ (x3_1 : Int), v3 = .int .i64 x3_1 ∧ Aside0 (pollardref13_Check.l0 kq x3_1 a0_0 l0_1 = some r) ∧ Aside0 (kq ≤ k) ∧ Aside0 (w'.heap[gb178]? = some (.cells #[.string a0_0, (.slice A0_1 l0_1.length c0_1)] 30 (0, 0))) ∧ Aside0 (Below w.heap.size w w'))
   case atStart => exact ⟨(0), (by first | rfl | (simp; done) | (simp [*]; done)), H', ⟨Nat.le_refl _⟩, ⟨by (with_reducible repeat (first | refine blk_drewN ?_ _ | refine blk_drew ?_ | refine blk_alloc ?_ _)); exact BK178.out⟩, ⟨by repeat (first | (with_reducible first | exact HB.out | apply below_alloc | apply pw_below_drewN | apply below_drew1 | refine below_set ?_ GE178.out) | exact HB.out)⟩⟩
   case round =>
    clear H'
    try clear c1
    try clear c2
    try clear c2b0
    try clear c2b1
    try clear p2
    try clear c6
    try clear c6b0
    try clear c6b1
    try clear hcz4_0
    try clear hcz4_1
    try clear hcz8_0
    try clear hcz8_1
    try clear hfz4_0
    try clear hfz4_1
    try clear hfz8_0
    try clear hfz8_1
    obtain ⟨x3_1, rfl, HA, HK1, BK178, HB⟩ := hrel
    cases gk with
    | zero => exact absurd HA.out (by simp [pollardref13_Check.l0])
    | succ k1 =>
     have H := HA.out
     clear HA
     simp only [pollardref13_Check.l0] at H
     by_cases c9 : x3_1 < (l0_1.length : Int)
     ·
      rw [if_pos c9] at H
      have c9b0 : decide (x3_1 < (l0_1.length : Int)) = true := decide_eq_true c9
      clear c9
      by_cases c10 : 0 ≤ x3_1
      ·
       rw [if_pos c10] at H
       have c10b0 : decide (0 ≤ x3_1) = true := decide_eq_true c10
       clear c10
       replace H := Option.bind_eq_some_iff.mp H
       obtain ⟨t181, A110, H⟩ := H
       replace H : (if t181 = 0 then (some 50) else (if (((rd_T61 l0_1 x3_1).f1).size : Int) = 32 then (if x3_1 > 0 then (if 0 ≤ (wrap64 (x3_1 - 1)) then (if (wrap64 (x3_1 - 1)) < (l0_1.length : Int) then (if (Op.bytesLess (((rd_T61 l0_1 x3_1).f0).toList) (((rd_T61 l0_1 (wrap64 (x3_1 - 1))).f0).toList) || (((rd_T61 l0_1 x3_1).f0).toList) == (((rd_T61 l0_1 (wrap64 (x3_1 - 1))).f0).toList)) = true then (some 61) else (pollardref13_Check.l0 k1 (wrap64 (x3_1 + 1)) a0_0 l0_1)) else (none)) else (none)) else (pollardref13_Check.l0 k1 (wrap64 (x3_1 + 1)) a0_0 l0_1)) else (some 6))) = some r := H
       have A11 := Aside0.mk A110
       clear A110
       by_cases c12 : t181 = 0
       ·
        rw [if_pos c12] at H
        have c12b0 : (t181 == 0) = true := beq_iff_eq.mpr c12
        have c12b1 : (t181 != 0) = false := bne_eq_false_iff_eq.mpr c12
        clear c12
        obtain rfl := Option.some.inj H
        have hcz13_0 : wr.cell? ⟨gb178, 0, none⟩ = some (.string a0_0) := (blk_cell BK178.out 0).trans rfl
        have hcz13_1 : wr.cell? ⟨gb178, 1, none⟩ = some (.slice A0_1 l0_1.length c0_1) := (blk_cell BK178.out 1).trans rfl
        have hfz13_0 := blk_frozen BK178.out 0
        have hfz13_1 := blk_frozen BK178.out 1
        have p180 : 0 ≤ (x3_1 : Int) := of_decide_eq_true (by first | (with_reducible assumption) | assumption)
        have q180 : x3_1 < (l0_1.length : Int) := of_decide_eq_true (by first | (with_reducible assumption) | assumption)
        obtain ⟨ad180, e180, hx180_0, hx180_1⟩ := at_T61 HR0_1.out x3_1 p180 q180
        cases e180
        replace hx180_0 := (HB.out.cell (World.block_lt_of_cell? w _ hx180_0)).trans hx180_0
        replace hx180_1 := (HB.out.cell (World.block_lt_of_cell? w _ hx180_1)).trans hx180_1
        replace p180 := eq_true p180
        replace q180 := eq_true q180
        go_wp2_with (first | (go_at_call 31; (with_reducible refine (pollardref05_Ref.calls k1 ((rd_T61 l0_1 x3_1).f0) t181 _ A11.out).mono ?_); rintro e w' ⟨rfl, ⟨nd, rfl⟩⟩; (try first | exact ⟨rfl, _, World.drewN_drewN _ _ _⟩ | exact ⟨rfl, _, Eq.trans (World.drewN_drewN _ _ _) (congrArg (World.drewN _) (Nat.add_assoc _ _ _))⟩)))
        repeat (go_quiet (first | (go_at_call 31; (with_reducible refine (pollardref05_Ref.calls k1 ((rd_T61 l0_1 x3_1).f0) t181 _ A11.out).mono ?_); rintro e w' ⟨rfl, ⟨nd, rfl⟩⟩; (try first | exact ⟨rfl, _, World.drewN_drewN _ _ _⟩ | exact ⟨rfl, _, Eq.trans (World.drewN_drewN _ _ _) (congrArg (World.drewN _) (Nat.add_assoc _ _ _))⟩))); try go_wp2_with (first | (go_at_call 31; (with_reducible refine (pollardref05_Ref.calls k1 ((rd_T61 l0_1 x3_1).f0) t181 _ A11.out).mono ?_); rintro e w' ⟨rfl, ⟨nd, rfl⟩⟩; (try first | exact ⟨rfl, _, World.drewN_drewN _ _ _⟩ | exact ⟨rfl, _, Eq.trans (World.drewN_drewN _ _ _) (congrArg (World.drewN _) (Nat.add_assoc _ _ _))⟩))))
        go_ret
        exact ⟨by first | rfl | (simp [errW_none, errW_some] <;> rfl) | (simp [*, errW_none, errW_some] <;> rfl), by repeat (first | (with_reducible first | exact HB.out | apply below_alloc | apply pw_below_drewN | apply below_drew1 | refine below_set ?_ GE178.out) | exact HB.out)⟩
       ·
        rw [if_neg c12] at H
        have c12b0 : (t181 == 0) = false := beq_eq_false_iff_ne.mpr c12
        have c12b1 : (t181 != 0) = true := bne_iff_ne.mpr c12
        by_cases c14 : (((rd_T61 l0_1 x3_1).f1).size : Int) = 32
        ·
         rw [if_pos c14] at H
         have c14b0 : ((((rd_T61 l0_1 x3_1).f1).size : Int) == 32) = true := beq_iff_eq.mpr c14
         have c14b1 : ((((rd_T61 l0_1 x3_1).f1).size : Int) != 32) = false := bne_eq_false_iff_eq.mpr c14
         clear c14
         by_cases c15 : x3_1 > 0
         ·
          rw [if_pos c15] at H
          have c15b0 : decide (0 < x3_1) = true := decide_eq_true c15
          clear c15
          obtain ⟨ji16, hji16⟩ : ∃ j_ : Int, (wrap64 (x3_1 - 1)) = j_ := ⟨_, rfl⟩
          replace H : (if 0 ≤ (ji16) then (if (ji16) < (l0_1.length : Int) then (if (Op.bytesLess (((rd_T61 l0_1 x3_1).f0).toList) (((rd_T61 l0_1 (ji16)).f0).toList) || (((rd_T61 l0_1 x3_1).f0).toList) == (((rd_T61 l0_1 (ji16)).f0).toList)) = true then (some 61) else (pollardref13_Check.l0 k1 (wrap64 (x3_1 + 1)) a0_0 l0_1)) else (none)) else (none)) = some r := by first | (rw [hji16] at H; exact H) | (simp only [hji16] at H ⊢; exact H)
          (try rw [hji16] at BK178)
          (try rw [hji16] at A11)
          have hji16w : (IntKind.i64.wrap (x3_1 - 1)) = ji16 := (i64_w _).trans hji16
          by_cases c17 : 0 ≤ (ji16)
          ·
           rw [if_pos c17] at H
           have c17b0 : decide (0 ≤ (ji16)) = true := decide_eq_true c17
           clear c17
           by_cases c18 : (ji16) < (l0_1.length : Int)
           ·
            rw [if_pos c18] at H
            have c18b0 : decide ((ji16) < (l0_1.length : Int)) = true := decide_eq_true c18
            clear c18
            by_cases c19 : (Op.bytesLess (((rd_T61 l0_1 x3_1).f0).toList) (((rd_T61 l0_1 (ji16)).f0).toList) || (((rd_T61 l0_1 x3_1).f0).toList) == (((rd_T61 l0_1 (ji16)).f0).toList)) = true
            ·
             rw [if_pos c19] at H
             have c19b0 : (Op.bytesLess (((rd_T61 l0_1 x3_1).f0).toList) (((rd_T61 l0_1 (ji16)).f0).toList) || (((rd_T61 l0_1 x3_1).f0).toList) == (((rd_T61 l0_1 (ji16)).f0).toList)) = true := c19
             (try (have c19b1 : decide (Op.bytesLess (((rd_T61 l0_1 x3_1).f0).toList) (((rd_T61 l0_1 (ji16)).f0).toList) || (((rd_T61 l0_1 x3_1).f0).toList) = (((rd_T61 l0_1 (ji16)).f0).toList)) = true := by simpa using c19))
             (try (have c19b2 : (Op.bytesLess (((rd_T61 l0_1 x3_1).f0).toList) (((rd_T61 l0_1 (ji16)).f0).toList) || (((rd_T61 l0_1 x3_1).f0).toList) == (((rd_T61 l0_1 (ji16)).f0).toList)) = true := by simpa using c19))
             clear c19
             obtain rfl := Option.some.inj H
             have hcz20_0 : wr.cell? ⟨gb178, 0, none⟩ = some (.string a0_0) := (blk_cell BK178.out 0).trans rfl
             have hcz20_1 : wr.cell? ⟨gb178, 1, none⟩ = some (.slice A0_1 l0_1.length c0_1) := (blk_cell BK178.out 1).trans rfl
             have hfz20_0 := blk_frozen BK178.out 0
             have hfz20_1 := blk_frozen BK178.out 1
             have p180 : 0 ≤ (x3_1 : Int) := of_decide_eq_true (by first | (with_reducible assumption) | assumption)
             have q180 : x3_1 < (l0_1.length : Int) := of_decide_eq_true (by first | (with_reducible assumption) | assumption)
             obtain ⟨ad180, e180, hx180_0, hx180_1⟩ := at_T61 HR0_1.out x3_1 p180 q180
             cases e180
             replace hx180_0 := (HB.out.cell (World.block_lt_of_cell? w _ hx180_0)).trans hx180_0
             replace hx180_1 := (HB.out.cell (World.block_lt_of_cell? w _ hx180_1)).trans hx180_1
             replace p180 := eq_true p180
             replace q180 := eq_true q180
             go_wp2_with (first | (go_at_call 31; (with_reducible refine (pollardref05_Ref.calls k1 ((rd_T61 l0_1 x3_1).f0) t181 _ A11.out).mono ?_); rintro e w' ⟨rfl, ⟨nd, rfl⟩⟩; (try first | exact ⟨rfl, _, World.drewN_drewN _ _ _⟩ | exact ⟨rfl, _, Eq.trans (World.drewN_drewN _ _ _) (congrArg (World.drewN _) (Nat.add_assoc _ _ _))⟩); have p182 : 0 ≤ (x3_1 : Int) := of_decide_eq_true (by first | (with_reducible assumption) | assumption); have q182 : x3_1 < (l0_1.length : Int) := of_decide_eq_true (by first | (with_reducible assumption) | assumption); obtain ⟨ad182, e182, hx182_0, hx182_1⟩ := at_T61 HR0_1.out x3_1 p182 q182; obtain rfl : ad180 = ad182 := (by injection e182); replace hx182_0 := (HB.out.cell (World.block_lt_of_cell? w _ hx182_0)).trans hx182_0; replace hx182_1 := (HB.out.cell (World.block_lt_of_cell? w _ hx182_1)).trans hx182_1; replace p182 := eq_true p182; replace q182 := eq_true q182; have p183 : 0 ≤ (x3_1 : Int) := of_decide_eq_true (by first | (with_reducible assumption) | assumption); have q183 : x3_1 < (l0_1.length : Int) := of_decide_eq_true (by first | (with_reducible assumption) | assumption); obtain ⟨ad183, e183, hx183_0, hx183_1⟩ := at_T61 HR0_1.out x3_1 p183 q183; obtain rfl : ad180 = ad183 := (by injection e183); replace hx183_0 := (HB.out.cell (World.block_lt_of_cell? w _ hx183_0)).trans hx183_0; replace hx183_1 := (HB.out.cell (World.block_lt_of_cell? w _ hx183_1)).trans hx183_1; replace p183 := eq_true p183; replace q183 := eq_true q183; have p184 : 0 ≤ ((ji16) : Int) := of_decide_eq_true (by first | (with_reducible assumption) | assumption); have q184 : (ji16) < (l0_1.length : Int) := of_decide_eq_true (by first | (with_reducible assumption) | assumption); obtain ⟨ad184, e184, hx184_0, hx184_1⟩ := at_T61 HR0_1.out (ji16) p184 q184; obtain rfl : ad180 = ad184 := (by injection e184); replace hx184_0 := (HB.out.cell (World.block_lt_of_cell? w _ hx184_0)).trans hx184_0; replace hx184_1 := (HB.out.cell (World.block_lt_of_cell? w _ hx184_1)).trans hx184_1; replace p184 := eq_true p184; replace q184 := eq_true q184))
             repeat (go_quiet (first | (go_at_call 31; (with_reducible refine (pollardref05_Ref.calls k1 ((rd_T61 l0_1 x3_1).f0) t181 _ A11.out).mono ?_); rintro e w' ⟨rfl, ⟨nd, rfl⟩⟩; (try first | exact ⟨rfl, _, World.drewN_drewN _ _ _⟩ | exact ⟨rfl, _, Eq.trans (World.drewN_drewN _ _ _) (congrArg (World.drewN _) (Nat.add_assoc _ _ _))⟩); have p182 : 0 ≤ (x3_1 : Int) := of_decide_eq_true (by first | (with_reducible assumption) | assumption); have q182 : x3_1 < (l0_1.length : Int) := of_decide_eq_true (by first | (with_reducible assumption) | assumption); obtain ⟨ad182, e182, hx182_0, hx182_1⟩ := at_T61 HR0_1.out x3_1 p182 q182; obtain rfl : ad180 = ad182 := (by injection e182); replace hx182_0 := (HB.out.cell (World.block_lt_of_cell? w _ hx182_0)).trans hx182_0; replace hx182_1 := (HB.out.cell (World.block_lt_of_cell? w _ hx182_1)).trans hx182_1; replace p182 := eq_true p182; replace q182 := eq_true q182; have p183 : 0 ≤ (x3_1 : Int) := of_decide_eq_true (by first | (with_reducible assumption) | assumption); have q183 : x3_1 < (l0_1.length : Int) := of_decide_eq_true (by first | (with_reducible assumption) | assumption); obtain ⟨ad183, e183, hx183_0, hx183_1⟩ := at_T61 HR0_1.out x3_1 p183 q183; obtain rfl : ad180 = ad183 := (by injection e183); replace hx183_0 := (HB.out.cell (World.block_lt_of_cell? w _ hx183_0)).trans hx183_0; replace hx183_1 := (HB.out.cell (World.block_lt_of_cell? w _ hx183_1)).trans hx183_1; replace p183 := eq_true p183; replace q183 := eq_true q183; have p184 : 0 ≤ ((ji16) : Int) := of_decide_eq_true (by first | (with_reducible assumption) | assumption); have q184 : (ji16) < (l0_1.length : Int) := of_decide_eq_true (by first | (with_reducible assumption) | assumption); obtain ⟨ad184, e184, hx184_0, hx184_1⟩ := at_T61 HR0_1.out (ji16) p184 q184; obtain rfl : ad180 = ad184 := (by injection e184); replace hx184_0 := (HB.out.cell (World.block_lt_of_cell? w _ hx184_0)).trans hx184_0; replace hx184_1 := (HB.out.cell (World.block_lt_of_cell? w _ hx184_1)).trans hx184_1; replace p184 := eq_true p184; replace q184 := eq_true q184)); try go_wp2_with (first | (go_at_call 31; (with_reducible refine (pollardref05_Ref.calls k1 ((rd_T61 l0_1 x3_1).f0) t181 _ A11.out).mono ?_); rintro e w' ⟨rfl, ⟨nd, rfl⟩⟩; (try first | exact ⟨rfl, _, World.drewN_drewN _ _ _⟩ | exact ⟨rfl, _, Eq.trans (World.drewN_drewN _ _ _) (congrArg (World.drewN _) (Nat.add_assoc _ _ _))⟩); have p182 : 0 ≤ (x3_1 : Int) := of_decide_eq_true (by first | (with_reducible assumption) | assumption); have q182 : x3_1 < (l0_1.length : Int) := of_decide_eq_true (by first | (with_reducible assumption) | assumption); obtain ⟨ad182, e182, hx182_0, hx182_1⟩ := at_T61 HR0_1.out x3_1 p182 q182; obtain rfl : ad180 = ad182 := (by injection e182); replace hx182_0 := (HB.out.cell (World.block_lt_of_cell? w _ hx182_0)).trans hx182_0; replace hx182_1 := (HB.out.cell (World.block_lt_of_cell? w _ hx182_1)).trans hx182_1; replace p182 := eq_true p182; replace q182 := eq_true q182; have p183 : 0 ≤ (x3_1 : Int) := of_decide_eq_true (by first | (with_reducible assumption) | assumption); have q183 : x3_1 < (l0_1.length : Int) := of_decide_eq_true (by first | (with_reducible assumption) | assumption); obtain ⟨ad183, e183, hx183_0, hx183_1⟩ := at_T61 HR0_1.out x3_1 p183 q183; obtain rfl : ad180 = ad183 := (by injection e183); replace hx183_0 := (HB.out.cell (World.block_lt_of_cell? w _ hx183_0)).trans hx183_0; replace hx183_1 := (HB.out.cell (World.block_lt_of_cell? w _ hx183_1)).trans hx183_1; replace p183 := eq_true p183; replace q183 := eq_true q183; have p184 : 0 ≤ ((ji16) : Int) := of_decide_eq_true (by first | (with_reducible assumption) | assumption); have q184 : (ji16) < (l0_1.length : Int) := of_decide_eq_true (by first | (with_reducible assumption) | assumption); obtain ⟨ad184, e184, hx184_0, hx184_1⟩ := at_T61 HR0_1.out (ji16) p184 q184; obtain rfl : ad180 = ad184 := (by injection e184); replace hx184_0 := (HB.out.cell (World.block_lt_of_cell? w _ hx184_0)).trans hx184_0; replace hx184_1 := (HB.out.cell (World.block_lt_of_cell? w _ hx184_1)).trans hx184_1; replace p184 := eq_true p184; replace q184 := eq_true q184)))
             go_ret
             exact ⟨by first | rfl | (simp [errW_none, errW_some] <;> rfl) | (simp only [← hji16]; first | rfl | (simp [errW_none, errW_some] <;> rfl)) | (simp [*, errW_none, errW_some] <;> rfl), by repeat (first | (with_reducible first | exact HB.out | apply below_alloc | apply pw_below_drewN | apply below_drew1 | refine below_set ?_ GE178.out) | exact HB.out)⟩
            ·
             rw [if_neg c19] at H
             have c19b0 : (Op.bytesLess (((rd_T61 l0_1 x3_1).f0).toList) (((rd_T61 l0_1 (ji16)).f0).toList) || (((rd_T61 l0_1 x3_1).f0).toList) == (((rd_T61 l0_1 (ji16)).f0).toList)) = false := by simpa using c19
             (try (have c19b1 : decide (Op.bytesLess (((rd_T61 l0_1 x3_1).f0).toList) (((rd_T61 l0_1 (ji16)).f0).toList) || (((rd_T61 l0_1 x3_1).f0).toList) = (((rd_T61 l0_1 (ji16)).f0).toList)) = false := by simpa using c19))
             (try (have c19b2 : (Op.bytesLess (((rd_T61 l0_1 x3_1).f0).toList) (((rd_T61 l0_1 (ji16)).f0).toList) || (((rd_T61 l0_1 x3_1).f0).toList) == (((rd_T61 l0_1 (ji16)).f0).toList)) = false := by simpa using c19))
             (try (have c19b3 : ¬ (Op.bytesLess (((rd_T61 l0_1 x3_1).f0).toList) (((rd_T61 l0_1 (ji16)).f0).toList) || (((rd_T61 l0_1 x3_1).f0).toList) = (((rd_T61 l0_1 (ji16)).f0).toList)) := by simpa using c19))
             clear c19
             have H' := Aside0.mk H
             clear H
             have hcz21_0 : wr.cell? ⟨gb178, 0, none⟩ = some (.string a0_0) := (blk_cell BK178.out 0).trans rfl
             have hcz21_1 : wr.cell? ⟨gb178, 1, none⟩ = some (.slice A0_1 l0_1.length c0_1) := (blk_cell BK178.out 1).trans rfl
             have hfz21_0 := blk_frozen BK178.out 0
             have hfz21_1 := blk_frozen BK178.out 1
             have p180 : 0 ≤ (x3_1 : Int) := of_decide_eq_true (by first | (with_reducible assumption) | assumption)
             have q180 : x3_1 < (l0_1.length : Int) := of_decide_eq_true (by first | (with_reducible assumption) | assumption)
             obtain ⟨ad180, e180, hx180_0, hx180_1⟩ := at_T61 HR0_1.out x3_1 p180 q180
             cases e180
             replace hx180_0 := (HB.out.cell (World.block_lt_of_cell? w _ hx180_0)).trans hx180_0
             replace hx180_1 := (HB.out.cell (World.block_lt_of_cell? w _ hx180_1)).trans hx180_1
             replace p180 := eq_true p180
             replace q180 := eq_true q180
             go_wp2_with (first | (go_at_call 31; (with_reducible refine (pollardref05_Ref.calls k1 ((rd_T61 l0_1 x3_1).f0) t181 _ A11.out).mono ?_); rintro e w' ⟨rfl, ⟨nd, rfl⟩⟩; (try first | exact ⟨rfl, _, World.drewN_drewN _ _ _⟩ | exact ⟨rfl, _, Eq.trans (World.drewN_drewN _ _ _) (congrArg (World.drewN _) (Nat.add_assoc _ _ _))⟩); have p182 : 0 ≤ (x3_1 : Int) := of_decide_eq_true (by first | (with_reducible assumption) | assumption); have q182 : x3_1 < (l0_1.length : Int) := of_decide_eq_true (by first | (with_reducible assumption) | assumption); obtain ⟨ad182, e182, hx182_0, hx182_1⟩ := at_T61 HR0_1.out x3_1 p182 q182; obtain rfl : ad180 = ad182 := (by injection e182); replace hx182_0 := (HB.out.cell (World.block_lt_of_cell? w _ hx182_0)).trans hx182_0; replace hx182_1 := (HB.out.cell (World.block_lt_of_cell? w _ hx182_1)).trans hx182_1; replace p182 := eq_true p182; replace q182 := eq_true q182; have p183 : 0 ≤ (x3_1 : Int) := of_decide_eq_true (by first | (with_reducible assumption) | assumption); have q183 : x3_1 < (l0_1.length : Int) := of_decide_eq_true (by first | (with_reducible assumption) | assumption); obtain ⟨ad183, e183, hx183_0, hx183_1⟩ := at_T61 HR0_1.out x3_1 p183 q183; obtain rfl : ad180 = ad183 := (by injection e183); replace hx183_0 := (HB.out.cell (World.block_lt_of_cell? w _ hx183_0)).trans hx183_0; replace hx183_1 := (HB.out.cell (World.block_lt_of_cell? w _ hx183_1)).trans hx183_1; replace p183 := eq_true p183; replace q183 := eq_true q183; have p184 : 0 ≤ ((ji16) : Int) := of_decide_eq_true (by first | (with_reducible assumption) | assumption); have q184 : (ji16) < (l0_1.length : Int) := of_decide_eq_true (by first | (with_reducible assumption) | assumption); obtain ⟨ad184, e184, hx184_0, hx184_1⟩ := at_T61 HR0_1.out (ji16) p184 q184; obtain rfl : ad180 = ad184 := (by injection e184); replace hx184_0 := (HB.out.cell (World.block_lt_of_cell? w _ hx184_0)).trans hx184_0; replace hx184_1 := (HB.out.cell (World.block_lt_of_cell? w _ hx184_1)).trans hx184_1; replace p184 := eq_true p184; replace q184 := eq_true q184))
             repeat (go_quiet (first | (go_at_call 31; (with_reducible refine (pollardref05_Ref.calls k1 ((rd_T61 l0_1 x3_1).f0) t181 _ A11.out).mono ?_); rintro e w' ⟨rfl, ⟨nd, rfl⟩⟩; (try first | exact ⟨rfl, _, World.drewN_drewN _ _ _⟩ | exact ⟨rfl, _, Eq.trans (World.drewN_drewN _ _ _) (congrArg (World.drewN _) (Nat.add_assoc _ _ _))⟩); have p182 : 0 ≤ (x3_1 : Int) := of_decide_eq_true (by first | (with_reducible assumption) | assumption); have q182 : x3_1 < (l0_1.length : Int) := of_decide_eq_true (by first | (with_reducible assumption) | assumption); obtain ⟨ad182, e182, hx182_0, hx182_1⟩ := at_T61 HR0_1.out x3_1 p182 q182; obtain rfl : ad180 = ad182 := (by injection e182); replace hx182_0 := (HB.out.cell (World.block_lt_of_cell? w _ hx182_0)).trans hx182_0; replace hx182_1 := (HB.out.cell (World.block_lt_of_cell? w _ hx182_1)).trans hx182_1; replace p182 := eq_true p182; replace q182 := eq_true q182; have p183 : 0 ≤ (x3_1 : Int) := of_decide_eq_true (by first | (with_reducible assumption) | assumption); have q183 : x3_1 < (l0_1.length : Int) := of_decide_eq_true (by first | (with_reducible assumption) | assumption); obtain ⟨ad183, e183, hx183_0, hx183_1⟩ := at_T61 HR0_1.out x3_1 p183 q183; obtain rfl : ad180 = ad183 := (by injection e183); replace hx183_0 := (HB.out.cell (World.block_lt_of_cell? w _ hx183_0)).trans hx183_0; replace hx183_1 := (HB.out.cell (World.block_lt_of_cell? w _ hx183_1)).trans hx183_1; replace p183 := eq_true p183; replace q183 := eq_true q183; have p184 : 0 ≤ ((ji16) : Int) := of_decide_eq_true (by first | (with_reducible assumption) | assumption); have q184 : (ji16) < (l0_1.length : Int) := of_decide_eq_true (by first | (with_reducible assumption) | assumption); obtain ⟨ad184, e184, hx184_0, hx184_1⟩ := at_T61 HR0_1.out (ji16) p184 q184; obtain rfl : ad180 = ad184 := (by injection e184); replace hx184_0 := (HB.out.cell (World.block_lt_of_cell? w _ hx184_0)).trans hx184_0; replace hx184_1 := (HB.out.cell (World.block_lt_of_cell? w _ hx184_1)).trans hx184_1; replace p184 := eq_true p184; replace q184 := eq_true q184)); try go_wp2_with (first | (go_at_call 31; (with_reducible refine (pollardref05_Ref.calls k1 ((rd_T61 l0_1 x3_1).f0) t181 _ A11.out).mono ?_); rintro e w' ⟨rfl, ⟨nd, rfl⟩⟩; (try first | exact ⟨rfl, _, World.drewN_drewN _ _ _⟩ | exact ⟨rfl, _, Eq.trans (World.drewN_drewN _ _ _) (congrArg (World.drewN _) (Nat.add_assoc _ _ _))⟩); have p182 : 0 ≤ (x3_1 : Int) := of_decide_eq_true (by first | (with_reducible assumption) | assumption); have q182 : x3_1 < (l0_1.length : Int) := of_decide_eq_true (by first | (with_reducible assumption) | assumption); obtain ⟨ad182, e182, hx182_0, hx182_1⟩ := at_T61 HR0_1.out x3_1 p182 q182; obtain rfl : ad180 = ad182 := (by injection e182); replace hx182_0 := (HB.out.cell (World.block_lt_of_cell? w _ hx182_0)).trans hx182_0; replace hx182_1 := (HB.out.cell (World.block_lt_of_cell? w _ hx182_1)).trans hx182_1; replace p182 := eq_true p182; replace q182 := eq_true q182; have p183 : 0 ≤ (x3_1 : Int) := of_decide_eq_true (by first | (with_reducible assumption) | assumption); have q183 : x3_1 < (l0_1.length : Int) := of_decide_eq_true (by first | (with_reducible assumption) | assumption); obtain ⟨ad183, e183, hx183_0, hx183_1⟩ := at_T61 HR0_1.out x3_1 p183 q183; obtain rfl : ad180 = ad183 := (by injection e183); replace hx183_0 := (HB.out.cell (World.block_lt_of_cell? w _ hx183_0)).trans hx183_0; replace hx183_1 := (HB.out.cell (World.block_lt_of_cell? w _ hx183_1)).trans hx183_1; replace p183 := eq_true p183; replace q183 := eq_true q183; have p184 : 0 ≤ ((ji16) : Int) := of_decide_eq_true (by first | (with_reducible assumption) | assumption); have q184 : (ji16) < (l0_1.length : Int) := of_decide_eq_true (by first | (with_reducible assumption) | assumption); obtain ⟨ad184, e184, hx184_0, hx184_1⟩ := at_T61 HR0_1.out (ji16) p184 q184; obtain rfl : ad180 = ad184 := (by injection e184); replace hx184_0 := (HB.out.cell (World.block_lt_of_cell? w _ hx184_0)).trans hx184_0; replace hx184_1 := (HB.out.cell (World.block_lt_of_cell? w _ hx184_1)).trans hx184_1; replace p184 := eq_true p184; replace q184 := eq_true q184)))
             go_roundg k1
             case measure => have := HK1.out; omega
             case rel => exact ⟨(wrap64 (x3_1 + 1)), (by first | rfl | (simp; done) | (simp [*]; done)), H', ⟨by have := HK1.out; omega⟩, ⟨by (with_reducible repeat (first | refine blk_drewN ?_ _ | refine blk_drew ?_ | refine blk_alloc ?_ _)); exact BK178.out⟩, ⟨by repeat (first | (with_reducible first | exact HB.out | apply below_alloc | apply pw_below_drewN | apply below_drew1 | refine below_set ?_ GE178.out) | exact HB.out)⟩⟩
           · rw [if_neg c18] at H
             exact absurd H (by simp)
          · rw [if_neg c17] at H
            exact absurd H (by simp)
         ·
          rw [if_neg c15] at H
          have c15b0 : decide (0 < x3_1) = false := decide_eq_false c15
          clear c15
          have H' := Aside0.mk H
          clear H
          have hcz22_0 : wr.cell? ⟨gb178, 0, none⟩ = some (.string a0_0) := (blk_cell BK178.out 0).trans rfl
          have hcz22_1 : wr.cell? ⟨gb178, 1, none⟩ = some (.slice A0_1 l0_1.length c0_1) := (blk_cell BK178.out 1).trans rfl
          have hfz22_0 := blk_frozen BK178.out 0
          have hfz22_1 := blk_frozen BK178.out 1
          have p180 : 0 ≤ (x3_1 : Int) := of_decide_eq_true (by first | (with_reducible assumption) | assumption)
          have q180 : x3_1 < (l0_1.length : Int) := of_decide_eq_true (by first | (with_reducible assumption) | assumption)
          obtain ⟨ad180, e180, hx180_0, hx180_1⟩ := at_T61 HR0_1.out x3_1 p180 q180
          cases e180
          replace hx180_0 := (HB.out.cell (World.block_lt_of_cell? w _ hx180_0)).trans hx180_0
          replace hx180_1 := (HB.out.cell (World.block_lt_of_cell? w _ hx180_1)).trans hx180_1
          replace p180 := eq_true p180
          replace q180 := eq_true q180
          go_wp2_with (first | (go_at_call 31; (with_reducible refine (pollardref05_Ref.calls k1 ((rd_T61 l0_1 x3_1).f0) t181 _ A11.out).mono ?_); rintro e w' ⟨rfl, ⟨nd, rfl⟩⟩; (try first | exact ⟨rfl, _, World.drewN_drewN _ _ _⟩ | exact ⟨rfl, _, Eq.trans (World.drewN_drewN _ _ _) (congrArg (World.drewN _) (Nat.add_assoc _ _ _))⟩); have p182 : 0 ≤ (x3_1 : Int) := of_decide_eq_true (by first | (with_reducible assumption) | assumption); have q182 : x3_1 < (l0_1.length : Int) := of_decide_eq_true (by first | (with_reducible assumption) | assumption); obtain ⟨ad182, e182, hx182_0, hx182_1⟩ := at_T61 HR0_1.out x3_1 p182 q182; obtain rfl : ad180 = ad182 := (by injection e182); replace hx182_0 := (HB.out.cell (World.block_lt_of_cell? w _ hx182_0)).trans hx182_0; replace hx182_1 := (HB.out.cell (World.block_lt_of_cell? w _ hx182_1)).trans hx182_1; replace p182 := eq_true p182; replace q182 := eq_true q182))
          repeat (go_quiet (first | (go_at_call 31; (with_reducible refine (pollardref05_Ref.calls k1 ((rd_T61 l0_1 x3_1).f0) t181 _ A11.out).mono ?_); rintro e w' ⟨rfl, ⟨nd, rfl⟩⟩; (try first | exact ⟨rfl, _, World.drewN_drewN _ _ _⟩ | exact ⟨rfl, _, Eq.trans (World.drewN_drewN _ _ _) (congrArg (World.drewN _) (Nat.add_assoc _ _ _))⟩); have p182 : 0 ≤ (x3_1 : Int) := of_decide_eq_true (by first | (with_reducible assumption) | assumption); have q182 : x3_1 < (l0_1.length : Int) := of_decide_eq_true (by first | (with_reducible assumption) | assumption); obtain ⟨ad182, e182, hx182_0, hx182_1⟩ := at_T61 HR0_1.out x3_1 p182 q182; obtain rfl : ad180 = ad182 := (by injection e182); replace hx182_0 := (HB.out.cell (World.block_lt_of_cell? w _ hx182_0)).trans hx182_0; replace hx182_1 := (HB.out.cell (World.block_lt_of_cell? w _ hx182_1)).trans hx182_1; replace p182 := eq_true p182; replace q182 := eq_true q182)); try go_wp2_with (first | (go_at_call 31; (with_reducible refine (pollardref05_Ref.calls k1 ((rd_T61 l0_1 x3_1).f0) t181 _ A11.out).mono ?_); rintro e w' ⟨rfl, ⟨nd, rfl⟩⟩; (try first | exact ⟨rfl, _, World.drewN_drewN _ _ _⟩ | exact ⟨rfl, _, Eq.trans (World.drewN_drewN _ _ _) (congrArg (World.drewN _) (Nat.add_assoc _ _ _))⟩); have p182 : 0 ≤ (x3_1 : Int) := of_decide_eq_true (by first | (with_reducible assumption) | assumption); have q182 : x3_1 < (l0_1.length : Int) := of_decide_eq_true (by first | (with_reducible assumption) | assumption); obtain ⟨ad182, e182, hx182_0, hx182_1⟩ := at_T61 HR0_1.out x3_1 p182 q182; obtain rfl : ad180 = ad182 := (by injection e182); replace hx182_0 := (HB.out.cell (World.block_lt_of_cell? w _ hx182_0)).trans hx182_0; replace hx182_1 := (HB.out.cell (World.block_lt_of_cell? w _ hx182_1)).trans hx182_1; replace p182 := eq_true p182; replace q182 := eq_true q182)))
          go_roundg k1
          case measure => have := HK1.out; omega
          case rel => exact ⟨(wrap64 (x3_1 + 1)), (by first | rfl | (simp; done) | (simp [*]; done)), H', ⟨by have := HK1.out; omega⟩, ⟨by (with_reducible repeat (first | refine blk_drewN ?_ _ | refine blk_drew ?_ | refine blk_alloc ?_ _)); exact BK178.out⟩, ⟨by repeat (first | (with_reducible first | exact HB.out | apply below_alloc | apply pw_below_drewN | apply below_drew1 | refine below_set ?_ GE178.out) | exact HB.out)⟩⟩
        ·
         rw [if_neg c14] at H
         have c14b0 : ((((rd_T61 l0_1 x3_1).f1).size : Int) == 32) = false := beq_eq_false_iff_ne.mpr c14
         have c14b1 : ((((rd_T61 l0_1 x3_1).f1).size : Int) != 32) = true := bne_iff_ne.mpr c14
         obtain rfl := Option.some.inj H
         have hcz23_0 : wr.cell? ⟨gb178, 0, none⟩ = some (.string a0_0) := (blk_cell BK178.out 0).trans rfl
         have hcz23_1 : wr.cell? ⟨gb178, 1, none⟩ = some (.slice A0_1 l0_1.length c0_1) := (blk_cell BK178.out 1).trans rfl
         have hfz23_0 := blk_frozen BK178.out 0
         have hfz23_1 := blk_frozen BK178.out 1
         have p180 : 0 ≤ (x3_1 : Int) := of_decide_eq_true (by first | (with_reducible assumption) | assumption)
         have q180 : x3_1 < (l0_1.length : Int) := of_decide_eq_true (by first | (with_reducible assumption) | assumption)
         obtain ⟨ad180, e180, hx180_0, hx180_1⟩ := at_T61 HR0_1.out x3_1 p180 q180
         cases e180
         replace hx180_0 := (HB.out.cell (World.block_lt_of_cell? w _ hx180_0)).trans hx180_0
         replace hx180_1 := (HB.out.cell (World.block_lt_of_cell? w _ hx180_1)).trans hx180_1
         replace p180 := eq_true p180
         replace q180 := eq_true q180
         go_wp2_with (first | (go_at_call 31; (with_reducible refine (pollardref05_Ref.calls k1 ((rd_T61 l0_1 x3_1).f0) t181 _ A11.out).mono ?_); rintro e w' ⟨rfl, ⟨nd, rfl⟩⟩; (try first | exact ⟨rfl, _, World.drewN_drewN _ _ _⟩ | exact ⟨rfl, _, Eq.trans (World.drewN_drewN _ _ _) (congrArg (World.drewN _) (Nat.add_assoc _ _ _))⟩); have p182 : 0 ≤ (x3_1 : Int) := of_decide_eq_true (by first | (with_reducible assumption) | assumption); have q182 : x3_1 < (l0_1.length : Int) := of_decide_eq_true (by first | (with_reducible assumption) | assumption); obtain ⟨ad182, e182, hx182_0, hx182_1⟩ := at_T61 HR0_1.out x3_1 p182 q182; obtain rfl : ad180 = ad182 := (by injection e182); replace hx182_0 := (HB.out.cell (World.block_lt_of_cell? w _ hx182_0)).trans hx182_0; replace hx182_1 := (HB.out.cell (World.block_lt_of_cell? w _ hx182_1)).trans hx182_1; replace p182 := eq_true p182; replace q182 := eq_true q182))
         repeat (go_quiet (first | (go_at_call 31; (with_reducible refine (pollardref05_Ref.calls k1 ((rd_T61 l0_1 x3_1).f0) t181 _ A11.out).mono ?_); rintro e w' ⟨rfl, ⟨nd, rfl⟩⟩; (try first | exact ⟨rfl, _, World.drewN_drewN _ _ _⟩ | exact ⟨rfl, _, Eq.trans (World.drewN_drewN _ _ _) (congrArg (World.drewN _) (Nat.add_assoc _ _ _))⟩); have p182 : 0 ≤ (x3_1 : Int) := of_decide_eq_true (by first | (with_reducible assumption) | assumption); have q182 : x3_1 < (l0_1.length : Int) := of_decide_eq_true (by first | (with_reducible assumption) | assumption); obtain ⟨ad182, e182, hx182_0, hx182_1⟩ := at_T61 HR0_1.out x3_1 p182 q182; obtain rfl : ad180 = ad182 := (by injection e182); replace hx182_0 := (HB.out.cell (World.block_lt_of_cell? w _ hx182_0)).trans hx182_0; replace hx182_1 := (HB.out.cell (World.block_lt_of_cell? w _ hx182_1)).trans hx182_1; replace p182 := eq_true p182; replace q182 := eq_true q182)); try go_wp2_with (first | (go_at_call 31; (with_reducible refine (pollardref05_Ref.calls k1 ((rd_T61 l0_1 x3_1).f0) t181 _ A11.out).mono ?_); rintro e w' ⟨rfl, ⟨nd, rfl⟩⟩; (try first | exact ⟨rfl, _, World.drewN_drewN _ _ _⟩ | exact ⟨rfl, _, Eq.trans (World.drewN_drewN _ _ _) (congrArg (World.drewN _) (Nat.add_assoc _ _ _))⟩); have p182 : 0 ≤ (x3_1 : Int) := of_decide_eq_true (by first | (with_reducible assumption) | assumption); have q182 : x3_1 < (l0_1.length : Int) := of_decide_eq_true (by first | (with_reducible assumption) | assumption); obtain ⟨ad182, e182, hx182_0, hx182_1⟩ := at_T61 HR0_1.out x3_1 p182 q182; obtain rfl : ad180 = ad182 := (by injection e182); replace hx182_0 := (HB.out.cell (World.block_lt_of_cell? w _ hx182_0)).trans hx182_0; replace hx182_1 := (HB.out.cell (World.block_lt_of_cell? w _ hx182_1)).trans hx182_1; replace p182 := eq_true p182; replace q182 := eq_true q182)))
         go_ret
         exact ⟨by first | rfl | (simp [errW_none, errW_some] <;> rfl) | (simp [*, errW_none, errW_some] <;> rfl), by repeat (first | (with_reducible first | exact HB.out | apply below_alloc | apply pw_below_drewN | apply below_drew1 | refine below_set ?_ GE178.out) | exact HB.out)⟩
      · rw [if_neg c10] at H
        exact absurd H (by simp)
     · rw [if_neg c9] at H
       have c9b0 : decide (x3_1 < (l0_1.length : Int)) = false := decide_eq_false c9
       clear c9
       obtain rfl := Option.some.inj H
       have hcz24_0 : wr.cell? ⟨gb178, 0, none⟩ = some (.string a0_0) := (blk_cell BK178.out 0).trans rfl
       have hcz24_1 : wr.cell? ⟨gb178, 1, none⟩ = some (.slice A0_1 l0_1.length c0_1) := (blk_cell BK178.out 1).trans rfl
       have hfz24_0 := blk_frozen BK178.out 0
       have hfz24_1 := blk_frozen BK178.out 1
       go_wp2
       repeat (go_quiet (fail); try go_wp2)
       go_ret
       exact ⟨by first | rfl | (simp [errW_none, errW_some] <;> rfl) | (simp [*, errW_none, errW_some] <;> rfl), by repeat (first | (with_reducible first | exact HB.out | apply below_alloc | apply pw_below_drewN | apply below_drew1 | refine below_set ?_ GE178.out) | exact HB.out)⟩
  · rw [if_neg c6] at H
    have c6b0 : (t179 == 1) = false := beq_eq_false_iff_ne.mpr c6
    have c6b1 : (t179 != 1) = true := bne_iff_ne.mpr c6
    obtain rfl := Option.some.inj H
    go_enter Try.func16, Try.ntmps16
    go_wp2_with (first | ((with_reducible refine gate_dst (N := 1) rfl ?_); refine box_event ?hg (N := 1) ?hd (cs := #[.string a0_0, .slice A0_1 l0_1.length c0_1]) (t := 30) ?hr ?_; (case hd => rfl); (case hg => rfl); (case hr => first | (go_simp; done) | (go_simp; rfl) | (go_simp; simp only [show ∀ x_ : Int, IntKind.u8.wrap x_ = x_ % 256 from fun _ => rfl, Int.add_emod_emod, Int.emod_add_emod, Int.emod_emod]; done)); intro gb178 hg w25 hbox hb; have n0_ := Aside0.mk (below_step (by repeat (first | (with_reducible first | exact HB.out | apply below_alloc | apply pw_below_drewN | apply below_drew1) | exact HB.out)) hb); have n1_ := Aside0.mk (hbox); have n2_ := Aside0.mk ((by rw [hg]; exact (below_size (by repeat (first | (with_reducible first | exact HB.out | apply below_alloc | apply pw_below_drewN | apply below_drew1) | exact HB.out))) : w.heap.size ≤ gb178)); have n3_ := Aside0.mk ((by rw [hg]; exact (below_size (by repeat (first | (with_reducible first | exact HB.out | apply below_alloc | apply pw_below_drewN | apply below_drew1) | exact HB.out))) : w.heap.size ≤ gb178)); clear HB; have HB := n0_; have BK178 := n1_; have GW178 := n2_; have GE178 := n3_; clear n0_ n1_ n2_ n3_; clear hb hbox hg; have hcz26_0 : w25.cell? ⟨gb178, 0, none⟩ = some (.string a0_0) := (blk_cell BK178.out 0).trans rfl; have hcz26_1 : w25.cell? ⟨gb178, 1, none⟩ = some (.slice A0_1 l0_1.length c0_1) := (blk_cell BK178.out 1).trans rfl; have hfz26_0 := blk_frozen BK178.out 0; have hfz26_1 := blk_frozen BK178.out 1) | (go_at_call 31; (with_reducible refine (pollardref05_Ref.calls k a0_0 t179 _ A5.out).mono ?_); rintro e w' ⟨rfl, ⟨nd, rfl⟩⟩; (try first | exact ⟨rfl, _, World.drewN_drewN _ _ _⟩ | exact ⟨rfl, _, Eq.trans (World.drewN_drewN _ _ _) (congrArg (World.drewN _) (Nat.add_assoc _ _ _))⟩)))
    repeat (go_quiet (first | ((with_reducible refine gate_dst (N := 1) rfl ?_); refine box_event ?hg (N := 1) ?hd (cs := #[.string a0_0, .slice A0_1 l0_1.length c0_1]) (t := 30) ?hr ?_; (case hd => rfl); (case hg => rfl); (case hr => first | (go_simp; done) | (go_simp; rfl) | (go_simp; simp only [show ∀ x_ : Int, IntKind.u8.wrap x_ = x_ % 256 from fun _ => rfl, Int.add_emod_emod, Int.emod_add_emod, Int.emod_emod]; done)); intro gb178 hg w25 hbox hb; have n0_ := Aside0.mk (below_step (by repeat (first | (with_reducible first | exact HB.out | apply below_alloc | apply pw_below_drewN | apply below_drew1) | exact HB.out)) hb); have n1_ := Aside0.mk (hbox); have n2_ := Aside0.mk ((by rw [hg]; exact (below_size (by repeat (first | (with_reducible first | exact HB.out | apply below_alloc | apply pw_below_drewN | apply below_drew1) | exact HB.out))) : w.heap.size ≤ gb178)); have n3_ := Aside0.mk ((by rw [hg]; exact (below_size (by repeat (first | (with_reducible first | exact HB.out | apply below_alloc | apply pw_below_drewN | apply below_drew1) | exact HB.out))) : w.heap.size ≤ gb178)); clear HB; have HB := n0_; have BK178 := n1_; have GW178 := n2_; have GE178 := n3_; clear n0_ n1_ n2_ n3_; clear hb hbox hg; have hcz26_0 : w25.cell? ⟨gb178, 0, none⟩ = some (.string a0_0) := (blk_cell BK178.out 0).trans rfl; have hcz26_1 : w25.cell? ⟨gb178, 1, none⟩ = some (.slice A0_1 l0_1.length c0_1) := (blk_cell BK178.out 1).trans rfl; have hfz26_0 := blk_frozen BK178.out 0; have hfz26_1 := blk_frozen BK178.out 1) | (go_at_call 31; (with_reducible refine (pollardref05_Ref.calls k a0_0 t179 _ A5.out).mono ?_); rintro e w' ⟨rfl, ⟨nd, rfl⟩⟩; (try first | exact ⟨rfl, _, World.drewN_drewN _ _ _⟩ | exact ⟨rfl, _, Eq.trans (World.drewN_drewN _ _ _) (congrArg (World.drewN _) (Nat.add_assoc _ _ _))⟩))); try go_wp2_with (first | ((with_reducible refine gate_dst (N := 1) rfl ?_); refine box_event ?hg (N := 1) ?hd (cs := #[.string a0_0, .slice A0_1 l0_1.length c0_1]) (t := 30) ?hr ?_; (case hd => rfl); (case hg => rfl); (case hr => first | (go_simp; done) | (go_simp; rfl) | (go_simp; simp only [show ∀ x_ : Int, IntKind.u8.wrap x_ = x_ % 256 from fun _ => rfl, Int.add_emod_emod, Int.emod_add_emod, Int.emod_emod]; done)); intro gb178 hg w25 hbox hb; have n0_ := Aside0.mk (below_step (by repeat (first | (with_reducible first | exact HB.out | apply below_alloc | apply pw_below_drewN | apply below_drew1) | exact HB.out)) hb); have n1_ := Aside0.mk (hbox); have n2_ := Aside0.mk ((by rw [hg]; exact (below_size (by repeat (first | (with_reducible first | exact HB.out | apply below_alloc | apply pw_below_drewN | apply below_drew1) | exact HB.out))) : w.heap.size ≤ gb178)); have n3_ := Aside0.mk ((by rw [hg]; exact (below_size (by repeat (first | (with_reducible first | exact HB.out | apply below_alloc | apply pw_below_drewN | apply below_drew1) | exact HB.out))) : w.heap.size ≤ gb178)); clear HB; have HB := n0_; have BK178 := n1_; have GW178 := n2_; have GE178 := n3_; clear n0_ n1_ n2_ n3_; clear hb hbox hg; have hcz26_0 : w25.cell? ⟨gb178, 0, none⟩ = some (.string a0_0) := (blk_cell BK178.out 0).trans rfl; have hcz26_1 : w25.cell? ⟨gb178, 1, none⟩ = some (.slice A0_1 l0_1.length c0_1) := (blk_cell BK178.out 1).trans rfl; have hfz26_0 := blk_frozen BK178.out 0; have hfz26_1 := blk_frozen BK178.out 1) | (go_at_call 31; (with_reducible refine (pollardref05_Ref.calls k a0_0 t179 _ A5.out).mono ?_); rintro e w' ⟨rfl, ⟨nd, rfl⟩⟩; (try first | exact ⟨rfl, _, World.drewN_drewN _ _ _⟩ | exact ⟨rfl, _, Eq.trans (World.drewN_drewN _ _ _) (congrArg (World.drewN _) (Nat.add_assoc _ _ _))⟩))))
    go_ret
    exact ⟨by first | rfl | (simp [errW_none, errW_some] <;> rfl) | (simp [*, errW_none, errW_some] <;> rfl), by repeat (first | (with_reducible first | exact HB.out | apply below_alloc | apply pw_below_drewN | apply below_drew1 | refine below_set ?_ GE178.out) | exact HB.out)⟩

/-! ### code_Hex: function 32 (given by hand) -/
def code_Hex.digits : ByteArray := ⟨#[48, 49, 50, 51, 52, 53, 54, 55, 56, 57, 97, 98, 99, 100, 101, 102]⟩
def code_Hex.dg (n : Nat) : UInt8 := code_Hex.digits.data.toList.getD n 0
/-- Bytes as digits. -/
def code_Hex.out : List UInt8 → List UInt8
 | [] => []
 | c :: cs => code_Hex.dg (c.toNat / 16) :: code_Hex.dg (c.toNat % 16) :: code_Hex.out cs
def code_Hex.f (a0 : ByteArray) : Option ByteArray := if a0.size ≤ 1099511627776 then some ⟨(code_Hex.out a0.data.toList).toArray⟩ else none
theorem code_Hex.info : (Try.prog.info? 5).map (fun i => (i.zero, i.size, i.bytes)) = some (some (.int .u8 0), 1, 1) := by kernel_rfl
/-- A builder in block b that has these bytes, in a row that lies at B or above. -/
def code_Hex.Has (w : World) (B b : Nat) (p : Value) (l : List Int) : Prop := ∃ v, w.heap[b]? = some (.cells #[p, v] 84 (0, 0)) ∧ w.ownsRow B 5 1 v l.length (nums .u8 l)
/-- All below B is as it was, but block b. -/
def code_Hex.Kept (B b : Nat) (w w' : World) : Prop := Below b w w' ∧ ∀ k, k < B → k ≠ b → w'.heap[k]? = w.heap[k]?
theorem code_Hex.Kept.refl (B b : Nat) (w : World) : code_Hex.Kept B b w w := ⟨Below.refl _ _, fun _ _ _ => rfl⟩
theorem code_Hex.Kept.trans {B b : Nat} {a c d : World} (h : code_Hex.Kept B b a c) (k : code_Hex.Kept B b c d) : code_Hex.Kept B b a d := ⟨h.1.trans k.1, fun i hi hb => (k.2 i hi hb).trans (h.2 i hi hb)⟩
theorem code_Hex.set (w : World) (b i : Nat) (v : Value) (k : Nat) (hk : k ≠ b) : (w.setCell ⟨b, i, none⟩ v).heap[k]? = w.heap[k]? := Below.heap_setCell _ _ _ _ hk
theorem code_Hex.kept_set (B b i : Nat) (w : World) (v : Value) : code_Hex.Kept B b w (w.setCell ⟨b, i, none⟩ v) := ⟨⟨rfl, rfl, rfl, by simp, fun k hk => code_Hex.set w b i v k (by omega)⟩, fun k _ hb => code_Hex.set w b i v k hb⟩
theorem code_Hex.copyCheck (B b : Nat) (l : List Int) (w : World) (hbB : b < B) (h : code_Hex.Has w B b (.pointer none) l ∨ code_Hex.Has w B b (.pointer (some ⟨b, 0, none⟩)) l) :
 Calls Try.prog 55 #[.pointer (some ⟨b, 0, none⟩)] w fun e w' => e = .returned (.tuple #[]) ∧ code_Hex.Has w' B b (.pointer (some ⟨b, 0, none⟩)) l ∧ code_Hex.Kept B b w w' ∧ w'.heap.size = w.heap.size := by
 rcases h with ⟨v, hb, ho⟩ | ⟨v, hb, ho⟩
 · have c0 : w.cell? ⟨b, 0, none⟩ = some (.pointer none) := by rw [Lib.cell_of_heap hb]; rfl
   refine (Any.Builder_copyCheck_fresh { Try.lays167 with } Try.Builder_Extra_167.toX72 b w c0 (by simp [World.shape?, hb]; rfl) (Lib.frozen_of_heap hb 0)).mono ?_
   rintro e w' ⟨rfl, rfl⟩
   refine ⟨rfl, ⟨v, ?_, own_setCell ho ?_ _⟩, code_Hex.kept_set _ _ _ _ _, by simp⟩
   · simp [World.setCell, Array.getElem?_modify, hb]
   · intro he
     have := own_base ho b he.symm
     omega
 · have c0 : w.cell? ⟨b, 0, none⟩ = some (.pointer (some ⟨b, 0, none⟩)) := by rw [Lib.cell_of_heap hb]; rfl
   refine (Any.Builder_copyCheck_used { Try.lays167 with } Try.Builder_Extra_167.toX72 b w c0).mono ?_
   rintro e w' ⟨rfl, rfl⟩
   exact ⟨rfl, ⟨v, hb, ho⟩, code_Hex.Kept.refl _ _ _, rfl⟩
set_option maxHeartbeats 4000000 in
set_option maxRecDepth 100000 in
theorem code_Hex.write (B b : Nat) (l : List Int) (c : Int) (w : World) (hbB : b < B) (hBw : B ≤ w.heap.size) (hl : l.length ≤ 8796093022208) (h : code_Hex.Has w B b (.pointer none) l ∨ code_Hex.Has w B b (.pointer (some ⟨b, 0, none⟩)) l) :
 Calls Try.prog 43 #[.pointer (some ⟨b, 0, none⟩), .int .u8 c] w fun e w' => e = .returned .nilIface ∧ code_Hex.Has w' B b (.pointer (some ⟨b, 0, none⟩)) (l ++ [c]) ∧ code_Hex.Kept B b w w' ∧ w.heap.size ≤ w'.heap.size := by
 have HH := Aside0.mk h
 have HL := Aside0.mk hl
 clear h hl
 go_enter Try.func43, Try.ntmps43
 go_wp2_with (go_at_call 55; refine (code_Hex.copyCheck B b l _ hbB HH.out).mono ?_)
 rintro e w1 ⟨rfl, ⟨v, hbk, hown⟩, hk1, hz1⟩
 have c1 : w1.cell? ⟨b, 1, none⟩ = some v := by rw [Lib.cell_of_heap hbk]; rfl
 have HBK := Aside0.mk hbk
 have HO := Aside0.mk hown
 have HK1 := Aside0.mk hk1
 have hz2 : B ≤ w1.heap.size := by omega
 have HZ := Aside0.mk hz1
 clear hbk hown hk1 hz1
 go_wp2_with ((with_reducible refine gate_builtin (b := .append) (xs := #[.tmp 11, .tmp 13]) rfl ?_); go_must (at_builtin; refine print_append_num (w0 := w1) (W := w1) B rfl (.tmp 11) (.tmp 13) 47 5 .u8 1 rfl Try.underlying47 code_Hex.info (by decide) v l c rfl rfl HO.out (Below.refl _ _) hz2 (by have := HL.out; omega) ?_; intro v4 w4 ho hb hg hat; obtain ⟨A4, c4, rfl⟩ := own_slice ho; have HO4 := Aside0.mk ho; have HB4 := Aside0.mk hb; have hb4 := (hb.block b hbB).trans HBK.out; have d1 : w4.cell? ⟨b, 1, none⟩ = some v := (by rw [Lib.cell_of_heap hb4]; rfl); have f1 : w4.frozen? ⟨b, 1, none⟩ = false := Lib.frozen_of_heap hb4 1; have HB5 := Aside0.mk hb4; clear ho hb hg hat hb4))
 go_ret
 refine ⟨rfl, ⟨.slice A4 (l ++ [c]).length c4, ?_, own_setCell HO4.out ?_ _⟩, HK1.out.trans (code_Hex.Kept.trans ⟨HB4.out.mono (Nat.le_of_lt hbB), fun k hk _ => HB4.out.block k hk⟩ (code_Hex.kept_set _ _ _ _ _)), ?_⟩
 · simp [World.setCell, Array.getElem?_modify, HB5.out]
 · intro he
   have := own_base HO4.out b he.symm
   omega
 · have h1 := HB4.out.size
   have h2 := HZ.out
   simp
   omega
theorem code_Hex.out_length : ∀ l : List UInt8, (code_Hex.out l).length = 2 * l.length
 | [] => rfl
 | c :: cs => by rw [code_Hex.out, List.length_cons, List.length_cons, code_Hex.out_length cs, List.length_cons]; omega
theorem code_Hex.out_append : ∀ a b : List UInt8, code_Hex.out (a ++ b) = code_Hex.out a ++ code_Hex.out b
 | [], b => rfl
 | c :: cs, b => by rw [List.cons_append, code_Hex.out, code_Hex.out, code_Hex.out_append cs b]; rfl
def code_Hex.ints (l : List UInt8) : List Int := l.map fun b => (b.toNat : Int)
theorem code_Hex.dg_eq (n : Nat) (hn : n < (⟨#[48, 49, 50, 51, 52, 53, 54, 55, 56, 57, 97, 98, 99, 100, 101, 102]⟩ : ByteArray).size) : (⟨#[48, 49, 50, 51, 52, 53, 54, 55, 56, 57, 97, 98, 99, 100, 101, 102]⟩ : ByteArray)[n]'hn = code_Hex.dg n := by
 match n, hn with
 | 0, _ => exact rfl
 | 1, _ => exact rfl
 | 2, _ => exact rfl
 | 3, _ => exact rfl
 | 4, _ => exact rfl
 | 5, _ => exact rfl
 | 6, _ => exact rfl
 | 7, _ => exact rfl
 | 8, _ => exact rfl
 | 9, _ => exact rfl
 | 10, _ => exact rfl
 | 11, _ => exact rfl
 | 12, _ => exact rfl
 | 13, _ => exact rfl
 | 14, _ => exact rfl
 | 15, _ => exact rfl
 | n + 16, h => exact absurd h (by show ¬ n + 16 < 16; omega)
theorem code_Hex.index (w : World) (n : Nat) (hn : n < 16) : Sem.run Try.prog (Instr.index 9 (.string ⟨#[48, 49, 50, 51, 52, 53, 54, 55, 56, 57, 97, 98, 99, 100, 101, 102]⟩) (.int .u8 (n : Int))) w = .ok (.int .u8 ((code_Hex.dg n).toNat : Int)) w := by
 have hu := Try.underlying9
 have h0 : (0 : Int) ≤ (n : Int) := Int.natCast_nonneg n
 have h1 : (n : Int) < 16 := by omega
 unfold Instr.index
 go_simp
 exact congrArg (fun u : UInt8 => (u.toNat : Int)) (code_Hex.dg_eq n hn)
set_option maxHeartbeats 4000000 in
set_option maxRecDepth 100000 in
theorem code_Hex.calls (a0 : ByteArray) (r : ByteArray) (w : World) (h : code_Hex.f a0 = some r) :
 Calls Try.prog 32 #[.string a0] w fun e w' => e = .returned (.string r) ∧ Below w.heap.size w w' := by
 unfold code_Hex.f at h
 by_cases hs : a0.size ≤ 1099511627776
 ·
  rw [if_pos hs] at h
  obtain rfl := Option.some.inj h
  have HS := Aside0.mk hs
  have kb := fun W => print_bytes (P := Try.prog) 9 47 5 Try.underlying9 Try.underlying47 Try.underlying5 a0 W
  obtain ⟨W0, hW0⟩ : ∃ W0, W0 = w.alloc (.cells #[.pointer none, .slice none 0 0] 84) := ⟨_, rfl⟩
  have hz0 : W0.heap.size = w.heap.size + 1 := by rw [hW0]; simp
  have hb0 : W0.heap[w.heap.size]? = some (.cells #[.pointer none, .slice none 0 0] 84 (0, 0)) := by rw [hW0]; exact heap_alloc_new w _
  have hbw : Below w.heap.size w W0 := by rw [hW0]; exact below_alloc (Below.refl _ _) _
  have RB := bytes_reads W0 5 a0 (by omega)
  rw [hz0] at RB
  have RB := Aside0.mk RB
  have hb1 : (Lib.bytesWorld W0 5 a0).heap[w.heap.size]? = some (.cells #[.pointer none, .slice none 0 0] 84 (0, 0)) := (Lib.bytesWorld_at_old W0 5 a0 _ (by omega)).trans hb0
  have HB1 := Aside0.mk hb1
  have BB := Aside0.mk (bytes_below hbw (by omega) 5 a0)
  have SB := Aside0.mk (show (Lib.bytesWorld W0 5 a0).heap.size = w.heap.size + 1 + 1 by rw [Lib.bytesWorld_size, hz0])
  clear h hs hz0 hb0 hbw hb1
  go_enter Try.func32, Try.ntmps32
  go_wp2_with fail
  clear kb
  rw [← hW0]
  clear hW0
  generalize Lib.bytesWorld W0 5 a0 = W1 at *
  have HI : code_Hex.Has W1 (w.heap.size + 1 + 1) w.heap.size (.pointer none) (code_Hex.ints (code_Hex.out (a0.data.toList.take 0))) := ⟨_, HB1.out, own_nil _ _ _ _⟩
  have HI := Aside0.mk HI
  generalize grownCap W0 a0.size 0 5 = gc at *
  generalize hbz : w.heap.size = b at *
  go_loopw [9] (fun u9 wr => ∃ (j : Nat) (p : Value), u9 = .int .i64 j ∧ j ≤ a0.size ∧ Aside0 ((p = .pointer none ∨ p = .pointer (some ⟨b, 0, none⟩)) ∧ code_Hex.Has wr (b + 1 + 1) b p (code_Hex.ints (code_Hex.out (a0.data.toList.take j)))) ∧ Aside0 (code_Hex.Kept (b + 1 + 1) b W1 wr) ∧ Aside0 (b + 1 + 1 ≤ wr.heap.size)) (fun u9 _ => a0.size - (intOf u9).toNat)
  case atStart => exact ⟨0, _, rfl, by omega, ⟨.inl rfl, HI.out⟩, ⟨code_Hex.Kept.refl _ _ _⟩, ⟨by rw [SB.out]; exact Nat.le_refl _⟩⟩
  case round =>
   obtain ⟨j, p, rfl, hj, HP, HK, HZ⟩ := hrel
   by_cases hlt : j < a0.size
   ·
    have hltI : (j : Int) < (a0.size : Int) := by omega
    obtain ⟨ad, ead, hcell⟩ := RB.out.2.2 (by omega)
    cases ead
    have hc := hcell j hlt
    rw [add_plain] at hc
    clear hcell
    replace hc : wr.cell? ⟨b + 1, j, none⟩ = _ := (World.cell?_of_block (w := W1) (HK.out.2 (b + 1) (by omega) (by omega))).trans hc
    have hlen : j < a0.data.toList.length := by rw [data_length]; exact hlt
    have hx : (bytesOf a0).getD j 0 = ((a0.data.toList[j].toNat : Nat) : Int) := by
     rw [List.getD_eq_getElem?_getD, bytesOf, List.getElem?_map, List.getElem?_eq_getElem hlen]
     rfl
    have htk : a0.data.toList.take (j + 1) = a0.data.toList.take j ++ [a0.data.toList[j]] := (List.take_append_getElem hlen).symm
    have hol : (code_Hex.ints (code_Hex.out (a0.data.toList.take j))).length = 2 * j := by
     rw [code_Hex.ints, List.length_map, code_Hex.out_length, List.length_take, Nat.min_eq_left (Nat.le_of_lt hlen)]
    rw [hx] at hc
    have HT := Aside0.mk htk
    have OL := Aside0.mk hol
    clear hx htk hol
    generalize a0.data.toList[j] = c at *
    have hcl : c.toNat < 256 := c.toNat_lt
    have hq : Int.tdiv (c.toNat : Int) 16 = ((c.toNat / 16 : Nat) : Int) := rfl
    have hr : Int.tmod (c.toNat : Int) 16 = ((c.toNat % 16 : Nat) : Int) := rfl
    have hq0 : code_Hex.Has wr (b + 1 + 1) b (.pointer none) (code_Hex.ints (code_Hex.out (a0.data.toList.take j))) ∨ code_Hex.Has wr (b + 1 + 1) b (.pointer (some ⟨b, 0, none⟩)) (code_Hex.ints (code_Hex.out (a0.data.toList.take j))) := by
     rcases HP.out with ⟨e | e, h⟩
     · rw [e] at h
       exact .inl h
     · rw [e] at h
       exact .inr h
    have HQ := Aside0.mk hq0
    have HWJ : Aside0 (Go.RowKit.wrap64 ((j : Int) + 1) = (j : Int) + 1) := ⟨(i64_w _).symm.trans (IntWalk.i64_in _ (by have := HS.out; omega))⟩
    have hd1 : c.toNat / 16 < 16 := by omega
    have hd2 : c.toNat % 16 < 16 := by omega
    have hot : code_Hex.ints (code_Hex.out (a0.data.toList.take (j + 1))) = code_Hex.ints (code_Hex.out (a0.data.toList.take j)) ++ [((code_Hex.dg (c.toNat / 16)).toNat : Int)] ++ [((code_Hex.dg (c.toNat % 16)).toNat : Int)] := by
     rw [HT.out, code_Hex.out_append, code_Hex.ints, List.map_append, List.append_assoc]
     rfl
    have HT := Aside0.mk hot
    clear hq0 hot
    go_upto_region 6 with (go_at_call 43; rw [code_Hex.dg_eq (c.toNat / 16) hd1]; go_must (refine (code_Hex.write (b + 1 + 1) b _ ((code_Hex.dg (c.toNat / 16)).toNat : Int) wr (by omega) HZ.out (by rw [OL.out]; have := HS.out; omega) HQ.out).mono ?_; rintro e w1 ⟨rfl, hH1, hK1, hZ1⟩; have H1 := Aside0.mk hH1; have K1 := Aside0.mk hK1; have Z1 := Aside0.mk (Nat.le_trans HZ.out hZ1); clear hH1 hK1 hZ1))
    go_wp2_with (go_at_call 43; rw [code_Hex.dg_eq (c.toNat % 16) hd2]; go_must (refine (code_Hex.write (b + 1 + 1) b _ ((code_Hex.dg (c.toNat % 16)).toNat : Int) w1 (by omega) Z1.out (by rw [List.length_append, OL.out]; have := HS.out; show 2 * j + 1 ≤ _; omega) (.inr H1.out)).mono ?_; rintro e w2 ⟨rfl, hH2, hK2, hZ2⟩; have H2 := Aside0.mk hH2; have K2 := Aside0.mk hK2; have Z2 := Aside0.mk (Nat.le_trans Z1.out hZ2); clear hH2 hK2 hZ2))
    go_roundw
    case rel => exact ⟨j + 1, _, by rw [HWJ.out]; rfl, by omega, ⟨.inr rfl, by rw [HT.out]; exact H2.out⟩, ⟨(HK.out.trans K1.out).trans K2.out⟩, Z2⟩
    case measure =>
     simp only [HWJ.out]
     simp [intOf]
     omega
   ·
    obtain rfl : j = a0.size := by omega
    have hall : a0.data.toList.take a0.size = a0.data.toList := List.take_of_length_le (by rw [data_length]; exact Nat.le_refl _)
    have hI : Lib.IsBuilderF 84 5 b b (Lib.byteCells (code_Hex.out a0.data.toList)) wr := by
     have hcell : nums .u8 (code_Hex.ints (code_Hex.out a0.data.toList)) = Lib.byteCells (code_Hex.out a0.data.toList) := by simp [nums, code_Hex.ints, Lib.byteCells]
     have hlen : (Lib.byteCells (code_Hex.out a0.data.toList)).length = (code_Hex.ints (code_Hex.out a0.data.toList)).length := by simp [code_Hex.ints, Lib.byteCells]
     have go : ∀ p, code_Hex.Has wr (b + 1 + 1) b p (code_Hex.ints (code_Hex.out a0.data.toList)) → Lib.BuilderAtF 84 5 b b p (Lib.byteCells (code_Hex.out a0.data.toList)) wr := by
      rintro p ⟨v, hv, ho⟩
      rw [hcell] at ho
      refine ⟨Nat.le_refl _, v, hv, ?_, fun he => by have := own_base ho b he; omega⟩
      rw [hlen]
      have h2 := World.ownsRowF_of ho
      rcases h2 with ⟨h3, h4 | ⟨g, cap, cur, fz, h5, h6, h7⟩⟩
      · exact ⟨h3, .inl h4⟩
      · exact ⟨h3, .inr ⟨g, cap, cur, fz, h5, by omega, h7⟩⟩
     rcases HP.out with ⟨e | e, h⟩
     · rw [e, hall] at h
       exact .inl (go _ h)
     · rw [e, hall] at h
       exact .inr (go _ h)
    have HI2 := Aside0.mk hI
    clear hI hall
    go_wp2_with (go_at_call 44; refine (Try.builder_StringB b b (code_Hex.out a0.data.toList) wr HI2.out (by have := HZ.out; omega)).mono ?_; rintro e w2 ⟨rfl, -, hb2, -⟩)
    go_ret
    exact ⟨rfl, by rw [hbz]; exact (BB.out.trans HK.out.1).trans hb2⟩
 · rw [if_neg hs] at h
   cases h


end Go.Proofs.Ytgepbdkbleapaaa.M
