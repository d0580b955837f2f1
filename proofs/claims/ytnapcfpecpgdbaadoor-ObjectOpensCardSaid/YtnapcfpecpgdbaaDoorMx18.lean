/- The program's functions as plain functions, and that each call comes to what these tell; written by a program of this session, some contracts by hand. Conditions: none. -/
import Derived.Test.YtnapcfpecpgdbaaDoorMx0
import Derived.Test.YtnapcfpecpgdbaaDoorMx16
import Derived.Test.YtnapcfpecpgdbaaDoorMx17
namespace Go.Proofs.YtnapcfpecpgdbaaDoor.M
open Go.RowKit Go.Proofs.YtnapcfpecpgdbaaDoorW.PrintWords Go.Proofs.YtnapcfpecpgdbaaDoorW.PrintLast Go.Proofs.YtnapcfpecpgdbaaDoorW.PrintMore
attribute [local go_sem] max2_int min2_int max_two min_two max_three min_three max_four min_four   -- for this text's walks alone
set_option linter.unusedVariables false
set_option linter.unusedSimpArgs false

/-! ### r7_CheckCommit: function 13 -/
mutual
def r7_CheckCommit.j0 : Nat → Bool → ByteArray → List ByteArray → ByteArray → Int → ByteArray → Option (Int)
 | 0, _, _, _, _, _, _ => none
 | k + 1, x3, x272000, x272001, x272002, x272003, x272004 => r7_CheckCommit.l0 k x3 0 x272000 x272001 x272002 x272003 x272004
def r7_CheckCommit.l0 : Nat → Bool → Int → ByteArray → List ByteArray → ByteArray → Int → ByteArray → Option (Int)
 | 0, _, _, _, _, _, _, _ => none
 | k + 1, x3, x4, x272000, x272001, x272002, x272003, x272004 => if x4 < (x272001.length : Int) then (if x3 = true then (if 0 ≤ x4 then (r7_CheckCommit.j2 k (((rdOf ByteArray.empty x272001 x4).size : Int) == 32) x4 x272000 x272001 x272002 x272003 x272004) else (none)) else (r7_CheckCommit.j2 k false x4 x272000 x272001 x272002 x272003 x272004)) else (if x3 = true then (some 0) else (some 6))
def r7_CheckCommit.j2 : Nat → Bool → Int → ByteArray → List ByteArray → ByteArray → Int → ByteArray → Option (Int)
 | 0, _, _, _, _, _, _, _ => none
 | k + 1, x3, x4, x272000, x272001, x272002, x272003, x272004 => r7_CheckCommit.l1 k x3 x4 0 x272000 x272001 x272002 x272003 x272004
def r7_CheckCommit.l1 : Nat → Bool → Int → Int → ByteArray → List ByteArray → ByteArray → Int → ByteArray → Option (Int)
 | 0, _, _, _, _, _, _, _, _ => none
 | k + 1, x3, x4, x5, x272000, x272001, x272002, x272003, x272004 => if x5 < x4 then (if x3 = true then (if 0 ≤ x5 then (if x5 < (x272001.length : Int) then (if 0 ≤ x4 then (if x4 < (x272001.length : Int) then (r7_CheckCommit.l1 k ((rdOf ByteArray.empty x272001 x5).toList != (rdOf ByteArray.empty x272001 x4).toList) x4 (wrap64 (x5 + 1)) x272000 x272001 x272002 x272003 x272004) else (none)) else (none)) else (none)) else (none)) else (r7_CheckCommit.l1 k false x4 (wrap64 (x5 + 1)) x272000 x272001 x272002 x272003 x272004)) else (r7_CheckCommit.l0 k x3 (wrap64 (x4 + 1)) x272000 x272001 x272002 x272003 x272004)
end
def r7_CheckCommit.f (k : Nat) (a0_0 : ByteArray) (l0_1 : List ByteArray) (a0_2 : ByteArray) (a0_3 : Int) (a0_4 : ByteArray) : Option (Int) := if (l0_1.length : Int) > 4 then (some 3) else (if (a0_0.size : Int) = 32 then ((r7_author.f k a0_2).bind fun t272 => (if t272 = true then ((r7_text.f k a0_4).bind fun t273 => (r7_CheckCommit.j0 k t273 a0_0 l0_1 a0_2 a0_3 a0_4)) else (r7_CheckCommit.j0 k false a0_0 l0_1 a0_2 a0_3 a0_4))) else (r7_CheckCommit.j0 k false a0_0 l0_1 a0_2 a0_3 a0_4))
theorem r7_CheckCommit.mono_l : ∀ k, (∀ y0 y1 y2 y3 y4 y5, LeO (r7_CheckCommit.j0 k y0 y1 y2 y3 y4 y5) (r7_CheckCommit.j0 (k + 1) y0 y1 y2 y3 y4 y5)) ∧ (∀ y0 y1 y2 y3 y4 y5 y6, LeO (r7_CheckCommit.l0 k y0 y1 y2 y3 y4 y5 y6) (r7_CheckCommit.l0 (k + 1) y0 y1 y2 y3 y4 y5 y6)) ∧ (∀ y0 y1 y2 y3 y4 y5 y6, LeO (r7_CheckCommit.j2 k y0 y1 y2 y3 y4 y5 y6) (r7_CheckCommit.j2 (k + 1) y0 y1 y2 y3 y4 y5 y6)) ∧ (∀ y0 y1 y2 y3 y4 y5 y6 y7, LeO (r7_CheckCommit.l1 k y0 y1 y2 y3 y4 y5 y6 y7) (r7_CheckCommit.l1 (k + 1) y0 y1 y2 y3 y4 y5 y6 y7))
 | 0 => ⟨fun _ _ _ _ _ _ r h => by simp [r7_CheckCommit.j0] at h, fun _ _ _ _ _ _ _ r h => by simp [r7_CheckCommit.l0] at h, fun _ _ _ _ _ _ _ r h => by simp [r7_CheckCommit.j2] at h, fun _ _ _ _ _ _ _ _ r h => by simp [r7_CheckCommit.l1] at h⟩
 | k + 1 => by
  obtain ⟨ih0, ih1, ih2, ih3⟩ := r7_CheckCommit.mono_l k
  refine ⟨?_, ?_, ?_, ?_⟩
  all_goals (intros; first | unfold r7_CheckCommit.j0 | unfold r7_CheckCommit.l0 | unfold r7_CheckCommit.j2 | unfold r7_CheckCommit.l1)
  all_goals repeat' with_reducible first | exact ih0 _ _ _ _ _ _ | exact ih1 _ _ _ _ _ _ _ | exact ih2 _ _ _ _ _ _ _ | exact ih3 _ _ _ _ _ _ _ _ | exact r7_author.mono _ _ | exact r7_text.mono _ _ | exact LeO.refl _ | exact LeO.none _ | refine LeO.ite ?_ ?_ | refine LeO.bind ?_ (fun _ => ?_)
theorem r7_CheckCommit.mono : ∀ a0 a1 a2 a3 a4 k, LeO (r7_CheckCommit.f k a0 a1 a2 a3 a4) (r7_CheckCommit.f (k + 1) a0 a1 a2 a3 a4) := by
 intro a0 a1 a2 a3 a4 k
 obtain ⟨ih0, ih1, ih2, ih3⟩ := r7_CheckCommit.mono_l k
 unfold r7_CheckCommit.f
 repeat' with_reducible first | exact ih0 _ _ _ _ _ _ | exact ih1 _ _ _ _ _ _ _ | exact ih2 _ _ _ _ _ _ _ | exact ih3 _ _ _ _ _ _ _ _ | exact r7_author.mono _ _ | exact r7_text.mono _ _ | exact LeO.refl _ | exact LeO.none _ | refine LeO.ite ?_ ?_ | refine LeO.bind ?_ (fun _ => ?_)
set_option maxHeartbeats 8000000 in
set_option maxRecDepth 100000 in
theorem r7_CheckCommit.calls (k : Nat) (a0_0 : ByteArray) (A0_1 : Option Addr) (c0_1 : Nat) (l0_1 : List ByteArray) (a0_2 : ByteArray) (a0_3 : Int) (a0_4 : ByteArray) (r : Int) (w : World) (hr0_1 : Kd.C Kd.string w A0_1 l0_1.length l0_1) (hc0_1 : l0_1.length ≤ c0_1) (h : r7_CheckCommit.f k a0_0 l0_1 a0_2 a0_3 a0_4 = some r) :
 Calls Tryd.prog 13 #[.agg #[.string a0_0, .slice A0_1 l0_1.length c0_1, .string a0_2, .int .u64 a0_3, .string a0_4]] w fun e w' => e = .returned (.int .i64 r) ∧ Below w.heap.size w w' := by
 have hu30 := Tryd.underlying30
 have HR0_1 := Aside0.mk hr0_1
 have HC0_1 := Aside0.mk hc0_1
 clear hr0_1 hc0_1
 have HB := Aside0.mk (Below.refl w.heap.size w)
 have H : (if (l0_1.length : Int) > 4 then (some 3) else (if (a0_0.size : Int) = 32 then ((r7_author.f k a0_2).bind fun t272 => (if t272 = true then ((r7_text.f k a0_4).bind fun t273 => (r7_CheckCommit.j0 k t273 a0_0 l0_1 a0_2 a0_3 a0_4)) else (r7_CheckCommit.j0 k false a0_0 l0_1 a0_2 a0_3 a0_4))) else (r7_CheckCommit.j0 k false a0_0 l0_1 a0_2 a0_3 a0_4))) = some r := h
 clear h
 by_cases c2 : (l0_1.length : Int) > 4
 · rw [if_pos c2] at H
   have c2b0 : decide (4 < (l0_1.length : Int)) = true := decide_eq_true c2
   have c2b1 : decide (4 < l0_1.length) = true := decide_eq_true (by omega)
   clear c2
   obtain rfl := Option.some.inj H
   go_enter Tryd.func13, Tryd.ntmps13
   go_wp2_with (first | ((with_reducible refine gate_dst (N := 1) rfl ?_); (try (refine gate_guard (by rfl) ?_; dsimp only)); refine box_event ?hg (N := 1) ?hd (cs := #[.string a0_0, .slice A0_1 l0_1.length c0_1, .string a0_2, .int .u64 a0_3, .string a0_4]) (t := 30) ?hr ?_; (case hd => rfl); (case hg => rfl); (case hr => first | (go_simp; done) | (go_simp; rfl)); intro gb271 hg w3 hbox hb; have n0_ := Aside0.mk (below_step bz_ hb); have n1_ := Aside0.mk (hbox); have n2_ := Aside0.mk ((by rw [hg]; exact (below_size bz_) : w.heap.size ≤ gb271)); have n3_ := Aside0.mk ((by rw [hg]; exact (below_size bz_) : w.heap.size ≤ gb271)); clear HB; have HB := n0_; have BK271 := n1_; have GW271 := n2_; have GE271 := n3_; clear n0_ n1_ n2_ n3_; clear hb hbox hg; have hcz4_0 : w3.cell? ⟨gb271, 0, none⟩ = some (.string a0_0) := (blk_cell BK271.out 0).trans rfl; have hcz4_1 : w3.cell? ⟨gb271, 1, none⟩ = some (.slice A0_1 l0_1.length c0_1) := (blk_cell BK271.out 1).trans rfl; have hcz4_2 : w3.cell? ⟨gb271, 2, none⟩ = some (.string a0_2) := (blk_cell BK271.out 2).trans rfl; have hcz4_3 : w3.cell? ⟨gb271, 3, none⟩ = some (.int .u64 a0_3) := (blk_cell BK271.out 3).trans rfl; have hcz4_4 : w3.cell? ⟨gb271, 4, none⟩ = some (.string a0_4) := (blk_cell BK271.out 4).trans rfl; have hfz4_0 := blk_frozen BK271.out 0; have hfz4_1 := blk_frozen BK271.out 1; have hfz4_2 := blk_frozen BK271.out 2; have hfz4_3 := blk_frozen BK271.out 3; have hfz4_4 := blk_frozen BK271.out 4))
   repeat (go_quiet (first | ((with_reducible refine gate_dst (N := 1) rfl ?_); (try (refine gate_guard (by rfl) ?_; dsimp only)); refine box_event ?hg (N := 1) ?hd (cs := #[.string a0_0, .slice A0_1 l0_1.length c0_1, .string a0_2, .int .u64 a0_3, .string a0_4]) (t := 30) ?hr ?_; (case hd => rfl); (case hg => rfl); (case hr => first | (go_simp; done) | (go_simp; rfl)); intro gb271 hg w3 hbox hb; have n0_ := Aside0.mk (below_step bz_ hb); have n1_ := Aside0.mk (hbox); have n2_ := Aside0.mk ((by rw [hg]; exact (below_size bz_) : w.heap.size ≤ gb271)); have n3_ := Aside0.mk ((by rw [hg]; exact (below_size bz_) : w.heap.size ≤ gb271)); clear HB; have HB := n0_; have BK271 := n1_; have GW271 := n2_; have GE271 := n3_; clear n0_ n1_ n2_ n3_; clear hb hbox hg; have hcz4_0 : w3.cell? ⟨gb271, 0, none⟩ = some (.string a0_0) := (blk_cell BK271.out 0).trans rfl; have hcz4_1 : w3.cell? ⟨gb271, 1, none⟩ = some (.slice A0_1 l0_1.length c0_1) := (blk_cell BK271.out 1).trans rfl; have hcz4_2 : w3.cell? ⟨gb271, 2, none⟩ = some (.string a0_2) := (blk_cell BK271.out 2).trans rfl; have hcz4_3 : w3.cell? ⟨gb271, 3, none⟩ = some (.int .u64 a0_3) := (blk_cell BK271.out 3).trans rfl; have hcz4_4 : w3.cell? ⟨gb271, 4, none⟩ = some (.string a0_4) := (blk_cell BK271.out 4).trans rfl; have hfz4_0 := blk_frozen BK271.out 0; have hfz4_1 := blk_frozen BK271.out 1; have hfz4_2 := blk_frozen BK271.out 2; have hfz4_3 := blk_frozen BK271.out 3; have hfz4_4 := blk_frozen BK271.out 4)); try go_wp2_with (first | ((with_reducible refine gate_dst (N := 1) rfl ?_); (try (refine gate_guard (by rfl) ?_; dsimp only)); refine box_event ?hg (N := 1) ?hd (cs := #[.string a0_0, .slice A0_1 l0_1.length c0_1, .string a0_2, .int .u64 a0_3, .string a0_4]) (t := 30) ?hr ?_; (case hd => rfl); (case hg => rfl); (case hr => first | (go_simp; done) | (go_simp; rfl)); intro gb271 hg w3 hbox hb; have n0_ := Aside0.mk (below_step bz_ hb); have n1_ := Aside0.mk (hbox); have n2_ := Aside0.mk ((by rw [hg]; exact (below_size bz_) : w.heap.size ≤ gb271)); have n3_ := Aside0.mk ((by rw [hg]; exact (below_size bz_) : w.heap.size ≤ gb271)); clear HB; have HB := n0_; have BK271 := n1_; have GW271 := n2_; have GE271 := n3_; clear n0_ n1_ n2_ n3_; clear hb hbox hg; have hcz4_0 : w3.cell? ⟨gb271, 0, none⟩ = some (.string a0_0) := (blk_cell BK271.out 0).trans rfl; have hcz4_1 : w3.cell? ⟨gb271, 1, none⟩ = some (.slice A0_1 l0_1.length c0_1) := (blk_cell BK271.out 1).trans rfl; have hcz4_2 : w3.cell? ⟨gb271, 2, none⟩ = some (.string a0_2) := (blk_cell BK271.out 2).trans rfl; have hcz4_3 : w3.cell? ⟨gb271, 3, none⟩ = some (.int .u64 a0_3) := (blk_cell BK271.out 3).trans rfl; have hcz4_4 : w3.cell? ⟨gb271, 4, none⟩ = some (.string a0_4) := (blk_cell BK271.out 4).trans rfl; have hfz4_0 := blk_frozen BK271.out 0; have hfz4_1 := blk_frozen BK271.out 1; have hfz4_2 := blk_frozen BK271.out 2; have hfz4_3 := blk_frozen BK271.out 3; have hfz4_4 := blk_frozen BK271.out 4)))
   go_ret
   exact ⟨xz_, bs1_ GE271.out⟩
 ·
  rw [if_neg c2] at H
  have c2b0 : decide (4 < (l0_1.length : Int)) = false := decide_eq_false c2
  have c2b1 : decide (4 < l0_1.length) = false := decide_eq_false (by omega)
  clear c2
  have HC5 := Aside0.mk H
  clear H
  go_enter Tryd.func13, Tryd.ntmps13
  go_upto_region 3 with (first | ((with_reducible refine gate_dst (N := 1) rfl ?_); (try (refine gate_guard (by rfl) ?_; dsimp only)); refine box_event ?hg (N := 1) ?hd (cs := #[.string a0_0, .slice A0_1 l0_1.length c0_1, .string a0_2, .int .u64 a0_3, .string a0_4]) (t := 30) ?hr ?_; (case hd => rfl); (case hg => rfl); (case hr => first | (go_simp; done) | (go_simp; rfl)); intro gb271 hg w6 hbox hb; have n0_ := Aside0.mk (below_step bz_ hb); have n1_ := Aside0.mk (hbox); have n2_ := Aside0.mk ((by rw [hg]; exact (below_size bz_) : w.heap.size ≤ gb271)); have n3_ := Aside0.mk ((by rw [hg]; exact (below_size bz_) : w.heap.size ≤ gb271)); clear HB; have HB := n0_; have BK271 := n1_; have GW271 := n2_; have GE271 := n3_; clear n0_ n1_ n2_ n3_; clear hb hbox hg; have hcz7_0 : w6.cell? ⟨gb271, 0, none⟩ = some (.string a0_0) := (blk_cell BK271.out 0).trans rfl; have hcz7_1 : w6.cell? ⟨gb271, 1, none⟩ = some (.slice A0_1 l0_1.length c0_1) := (blk_cell BK271.out 1).trans rfl; have hcz7_2 : w6.cell? ⟨gb271, 2, none⟩ = some (.string a0_2) := (blk_cell BK271.out 2).trans rfl; have hcz7_3 : w6.cell? ⟨gb271, 3, none⟩ = some (.int .u64 a0_3) := (blk_cell BK271.out 3).trans rfl; have hcz7_4 : w6.cell? ⟨gb271, 4, none⟩ = some (.string a0_4) := (blk_cell BK271.out 4).trans rfl; have hfz7_0 := blk_frozen BK271.out 0; have hfz7_1 := blk_frozen BK271.out 1; have hfz7_2 := blk_frozen BK271.out 2; have hfz7_3 := blk_frozen BK271.out 3; have hfz7_4 := blk_frozen BK271.out 4))
  repeat (go_quiet (first | ((with_reducible refine gate_dst (N := 1) rfl ?_); (try (refine gate_guard (by rfl) ?_; dsimp only)); refine box_event ?hg (N := 1) ?hd (cs := #[.string a0_0, .slice A0_1 l0_1.length c0_1, .string a0_2, .int .u64 a0_3, .string a0_4]) (t := 30) ?hr ?_; (case hd => rfl); (case hg => rfl); (case hr => first | (go_simp; done) | (go_simp; rfl)); intro gb271 hg w6 hbox hb; have n0_ := Aside0.mk (below_step bz_ hb); have n1_ := Aside0.mk (hbox); have n2_ := Aside0.mk ((by rw [hg]; exact (below_size bz_) : w.heap.size ≤ gb271)); have n3_ := Aside0.mk ((by rw [hg]; exact (below_size bz_) : w.heap.size ≤ gb271)); clear HB; have HB := n0_; have BK271 := n1_; have GW271 := n2_; have GE271 := n3_; clear n0_ n1_ n2_ n3_; clear hb hbox hg; have hcz7_0 : w6.cell? ⟨gb271, 0, none⟩ = some (.string a0_0) := (blk_cell BK271.out 0).trans rfl; have hcz7_1 : w6.cell? ⟨gb271, 1, none⟩ = some (.slice A0_1 l0_1.length c0_1) := (blk_cell BK271.out 1).trans rfl; have hcz7_2 : w6.cell? ⟨gb271, 2, none⟩ = some (.string a0_2) := (blk_cell BK271.out 2).trans rfl; have hcz7_3 : w6.cell? ⟨gb271, 3, none⟩ = some (.int .u64 a0_3) := (blk_cell BK271.out 3).trans rfl; have hcz7_4 : w6.cell? ⟨gb271, 4, none⟩ = some (.string a0_4) := (blk_cell BK271.out 4).trans rfl; have hfz7_0 := blk_frozen BK271.out 0; have hfz7_1 := blk_frozen BK271.out 1; have hfz7_2 := blk_frozen BK271.out 2; have hfz7_3 := blk_frozen BK271.out 3; have hfz7_4 := blk_frozen BK271.out 4)); go_upto_region 3 with (first | ((with_reducible refine gate_dst (N := 1) rfl ?_); (try (refine gate_guard (by rfl) ?_; dsimp only)); refine box_event ?hg (N := 1) ?hd (cs := #[.string a0_0, .slice A0_1 l0_1.length c0_1, .string a0_2, .int .u64 a0_3, .string a0_4]) (t := 30) ?hr ?_; (case hd => rfl); (case hg => rfl); (case hr => first | (go_simp; done) | (go_simp; rfl)); intro gb271 hg w6 hbox hb; have n0_ := Aside0.mk (below_step bz_ hb); have n1_ := Aside0.mk (hbox); have n2_ := Aside0.mk ((by rw [hg]; exact (below_size bz_) : w.heap.size ≤ gb271)); have n3_ := Aside0.mk ((by rw [hg]; exact (below_size bz_) : w.heap.size ≤ gb271)); clear HB; have HB := n0_; have BK271 := n1_; have GW271 := n2_; have GE271 := n3_; clear n0_ n1_ n2_ n3_; clear hb hbox hg; have hcz7_0 : w6.cell? ⟨gb271, 0, none⟩ = some (.string a0_0) := (blk_cell BK271.out 0).trans rfl; have hcz7_1 : w6.cell? ⟨gb271, 1, none⟩ = some (.slice A0_1 l0_1.length c0_1) := (blk_cell BK271.out 1).trans rfl; have hcz7_2 : w6.cell? ⟨gb271, 2, none⟩ = some (.string a0_2) := (blk_cell BK271.out 2).trans rfl; have hcz7_3 : w6.cell? ⟨gb271, 3, none⟩ = some (.int .u64 a0_3) := (blk_cell BK271.out 3).trans rfl; have hcz7_4 : w6.cell? ⟨gb271, 4, none⟩ = some (.string a0_4) := (blk_cell BK271.out 4).trans rfl; have hfz7_0 := blk_frozen BK271.out 0; have hfz7_1 := blk_frozen BK271.out 1; have hfz7_2 := blk_frozen BK271.out 2; have hfz7_3 := blk_frozen BK271.out 3; have hfz7_4 := blk_frozen BK271.out 4)))
  (try simp only [Act.put, List.setIfInBounds_toArray, List.set_cons_zero, List.set_cons_succ])
  go_cut [3] (fun v3 wc => ∃ (kq : Nat) (x3_4 : Bool), v3 = .bool x3_4 ∧ Aside0 (r7_CheckCommit.j0 kq x3_4 a0_0 l0_1 a0_2 a0_3 a0_4 = some r) ∧ Aside0 (kq ≤ k) ∧ Aside0 (wc.heap[gb271]? = some (.cells #[.string a0_0, (.slice A0_1 l0_1.length c0_1), .string a0_2, .int .u64 a0_3, .string a0_4] 30 (0, 0))) ∧ Aside0 (Below w.heap.size w wc))
  case first =>
   have H := HC5.out
   clear HC5
   by_cases c8 : (a0_0.size : Int) = 32
   ·
    rw [if_pos c8] at H
    have c8b0 : ((a0_0.size : Int) == 32) = true := beq_iff_eq.mpr c8
    have c8b1 : ((a0_0.size : Int) != 32) = false := bne_eq_false_iff_eq.mpr c8
    clear c8
    (first | rw [c8b0] | (simp only [i64_w, i32_w]; rw [c8b0]) | skip)
    replace H := Option.bind_eq_some_iff.mp H
    obtain ⟨t272, A90, H⟩ := H
    try dsimp only at H
    have A9 := Aside0.mk A90
    clear A90
    by_cases c10 : t272 = true
    ·
     subst c10
     have H1 := H
     rw [if_pos rfl] at H1
     clear H
     have H := H1
     clear H1
     replace H := Option.bind_eq_some_iff.mp H
     obtain ⟨t273, A110, H⟩ := H
     try dsimp only at H
     have A11 := Aside0.mk A110
     clear A110
     have H' := Aside0.mk H
     clear H
     have hcz12_0 : w6.cell? ⟨gb271, 0, none⟩ = some (.string a0_0) := (blk_cell BK271.out 0).trans rfl
     have hcz12_1 : w6.cell? ⟨gb271, 1, none⟩ = some (.slice A0_1 l0_1.length c0_1) := (blk_cell BK271.out 1).trans rfl
     have hcz12_2 : w6.cell? ⟨gb271, 2, none⟩ = some (.string a0_2) := (blk_cell BK271.out 2).trans rfl
     have hcz12_3 : w6.cell? ⟨gb271, 3, none⟩ = some (.int .u64 a0_3) := (blk_cell BK271.out 3).trans rfl
     have hcz12_4 : w6.cell? ⟨gb271, 4, none⟩ = some (.string a0_4) := (blk_cell BK271.out 4).trans rfl
     have hfz12_0 := blk_frozen BK271.out 0
     have hfz12_1 := blk_frozen BK271.out 1
     have hfz12_2 := blk_frozen BK271.out 2
     have hfz12_3 := blk_frozen BK271.out 3
     have hfz12_4 := blk_frozen BK271.out 4
     go_wp2_with (first | (go_at_call 31; (with_reducible refine (r7_author.calls k a0_2 true _ A9.out).mono ?_); rintro e w13 ⟨rfl, hb⟩; have n0_ := Aside0.mk (blk_below (g := gb271) (o := .cells #[.string a0_0, .slice A0_1 l0_1.length c0_1, .string a0_2, .int .u64 a0_3, .string a0_4] 30 (0, 0)) (kz_ BK271.out) hb); have n1_ := Aside0.mk (below_step (bs1_ GE271.out) hb); clear BK271; clear HB; have BK271 := n0_; have HB := n1_; clear n0_ n1_; (try clear hb); (try clear hb2); (try clear hk); (try clear hi); have hcz14_0 : w13.cell? ⟨gb271, 0, none⟩ = some (.string a0_0) := (blk_cell BK271.out 0).trans rfl; have hcz14_1 : w13.cell? ⟨gb271, 1, none⟩ = some (.slice A0_1 l0_1.length c0_1) := (blk_cell BK271.out 1).trans rfl; have hcz14_2 : w13.cell? ⟨gb271, 2, none⟩ = some (.string a0_2) := (blk_cell BK271.out 2).trans rfl; have hcz14_3 : w13.cell? ⟨gb271, 3, none⟩ = some (.int .u64 a0_3) := (blk_cell BK271.out 3).trans rfl; have hcz14_4 : w13.cell? ⟨gb271, 4, none⟩ = some (.string a0_4) := (blk_cell BK271.out 4).trans rfl; have hfz14_0 := blk_frozen BK271.out 0; have hfz14_1 := blk_frozen BK271.out 1; have hfz14_2 := blk_frozen BK271.out 2; have hfz14_3 := blk_frozen BK271.out 3; have hfz14_4 := blk_frozen BK271.out 4) | (go_at_call 32; (with_reducible refine (r7_text.calls k a0_4 t273 _ A11.out).mono ?_); rintro e w' ⟨rfl, ⟨nd, rfl⟩⟩; (try exact wz_)))
     repeat (go_quiet (first | (go_at_call 31; (with_reducible refine (r7_author.calls k a0_2 true _ A9.out).mono ?_); rintro e w13 ⟨rfl, hb⟩; have n0_ := Aside0.mk (blk_below (g := gb271) (o := .cells #[.string a0_0, .slice A0_1 l0_1.length c0_1, .string a0_2, .int .u64 a0_3, .string a0_4] 30 (0, 0)) (kz_ BK271.out) hb); have n1_ := Aside0.mk (below_step (bs1_ GE271.out) hb); clear BK271; clear HB; have BK271 := n0_; have HB := n1_; clear n0_ n1_; (try clear hb); (try clear hb2); (try clear hk); (try clear hi); have hcz14_0 : w13.cell? ⟨gb271, 0, none⟩ = some (.string a0_0) := (blk_cell BK271.out 0).trans rfl; have hcz14_1 : w13.cell? ⟨gb271, 1, none⟩ = some (.slice A0_1 l0_1.length c0_1) := (blk_cell BK271.out 1).trans rfl; have hcz14_2 : w13.cell? ⟨gb271, 2, none⟩ = some (.string a0_2) := (blk_cell BK271.out 2).trans rfl; have hcz14_3 : w13.cell? ⟨gb271, 3, none⟩ = some (.int .u64 a0_3) := (blk_cell BK271.out 3).trans rfl; have hcz14_4 : w13.cell? ⟨gb271, 4, none⟩ = some (.string a0_4) := (blk_cell BK271.out 4).trans rfl; have hfz14_0 := blk_frozen BK271.out 0; have hfz14_1 := blk_frozen BK271.out 1; have hfz14_2 := blk_frozen BK271.out 2; have hfz14_3 := blk_frozen BK271.out 3; have hfz14_4 := blk_frozen BK271.out 4) | (go_at_call 32; (with_reducible refine (r7_text.calls k a0_4 t273 _ A11.out).mono ?_); rintro e w' ⟨rfl, ⟨nd, rfl⟩⟩; (try exact wz_))); try go_wp2_with (first | (go_at_call 31; (with_reducible refine (r7_author.calls k a0_2 true _ A9.out).mono ?_); rintro e w13 ⟨rfl, hb⟩; have n0_ := Aside0.mk (blk_below (g := gb271) (o := .cells #[.string a0_0, .slice A0_1 l0_1.length c0_1, .string a0_2, .int .u64 a0_3, .string a0_4] 30 (0, 0)) (kz_ BK271.out) hb); have n1_ := Aside0.mk (below_step (bs1_ GE271.out) hb); clear BK271; clear HB; have BK271 := n0_; have HB := n1_; clear n0_ n1_; (try clear hb); (try clear hb2); (try clear hk); (try clear hi); have hcz14_0 : w13.cell? ⟨gb271, 0, none⟩ = some (.string a0_0) := (blk_cell BK271.out 0).trans rfl; have hcz14_1 : w13.cell? ⟨gb271, 1, none⟩ = some (.slice A0_1 l0_1.length c0_1) := (blk_cell BK271.out 1).trans rfl; have hcz14_2 : w13.cell? ⟨gb271, 2, none⟩ = some (.string a0_2) := (blk_cell BK271.out 2).trans rfl; have hcz14_3 : w13.cell? ⟨gb271, 3, none⟩ = some (.int .u64 a0_3) := (blk_cell BK271.out 3).trans rfl; have hcz14_4 : w13.cell? ⟨gb271, 4, none⟩ = some (.string a0_4) := (blk_cell BK271.out 4).trans rfl; have hfz14_0 := blk_frozen BK271.out 0; have hfz14_1 := blk_frozen BK271.out 1; have hfz14_2 := blk_frozen BK271.out 2; have hfz14_3 := blk_frozen BK271.out 3; have hfz14_4 := blk_frozen BK271.out 4) | (go_at_call 32; (with_reducible refine (r7_text.calls k a0_4 t273 _ A11.out).mono ?_); rintro e w' ⟨rfl, ⟨nd, rfl⟩⟩; (try exact wz_))))
     go_meet
     case rel => exact ⟨_, (t273), ez_, H', ⟨by first | omega | exact Nat.le_refl _⟩, ⟨kz_ BK271.out⟩, ⟨bs1_ GE271.out⟩⟩
    ·
     replace c10 := Bool.eq_false_iff.mpr c10
     subst c10
     have H1 := H
     rw [if_neg (show ¬ (false = true) by decide)] at H1
     clear H
     have H := H1
     clear H1
     have H' := Aside0.mk H
     clear H
     have hcz15_0 : w6.cell? ⟨gb271, 0, none⟩ = some (.string a0_0) := (blk_cell BK271.out 0).trans rfl
     have hcz15_1 : w6.cell? ⟨gb271, 1, none⟩ = some (.slice A0_1 l0_1.length c0_1) := (blk_cell BK271.out 1).trans rfl
     have hcz15_2 : w6.cell? ⟨gb271, 2, none⟩ = some (.string a0_2) := (blk_cell BK271.out 2).trans rfl
     have hcz15_3 : w6.cell? ⟨gb271, 3, none⟩ = some (.int .u64 a0_3) := (blk_cell BK271.out 3).trans rfl
     have hcz15_4 : w6.cell? ⟨gb271, 4, none⟩ = some (.string a0_4) := (blk_cell BK271.out 4).trans rfl
     have hfz15_0 := blk_frozen BK271.out 0
     have hfz15_1 := blk_frozen BK271.out 1
     have hfz15_2 := blk_frozen BK271.out 2
     have hfz15_3 := blk_frozen BK271.out 3
     have hfz15_4 := blk_frozen BK271.out 4
     go_wp2_with (first | (go_at_call 31; (with_reducible refine (r7_author.calls k a0_2 false _ A9.out).mono ?_); rintro e w16 ⟨rfl, hb⟩; have n0_ := Aside0.mk (blk_below (g := gb271) (o := .cells #[.string a0_0, .slice A0_1 l0_1.length c0_1, .string a0_2, .int .u64 a0_3, .string a0_4] 30 (0, 0)) (kz_ BK271.out) hb); have n1_ := Aside0.mk (below_step (bs1_ GE271.out) hb); clear BK271; clear HB; have BK271 := n0_; have HB := n1_; clear n0_ n1_; (try clear hb); (try clear hb2); (try clear hk); (try clear hi)))
     repeat (go_quiet (first | (go_at_call 31; (with_reducible refine (r7_author.calls k a0_2 false _ A9.out).mono ?_); rintro e w16 ⟨rfl, hb⟩; have n0_ := Aside0.mk (blk_below (g := gb271) (o := .cells #[.string a0_0, .slice A0_1 l0_1.length c0_1, .string a0_2, .int .u64 a0_3, .string a0_4] 30 (0, 0)) (kz_ BK271.out) hb); have n1_ := Aside0.mk (below_step (bs1_ GE271.out) hb); clear BK271; clear HB; have BK271 := n0_; have HB := n1_; clear n0_ n1_; (try clear hb); (try clear hb2); (try clear hk); (try clear hi))); try go_wp2_with (first | (go_at_call 31; (with_reducible refine (r7_author.calls k a0_2 false _ A9.out).mono ?_); rintro e w16 ⟨rfl, hb⟩; have n0_ := Aside0.mk (blk_below (g := gb271) (o := .cells #[.string a0_0, .slice A0_1 l0_1.length c0_1, .string a0_2, .int .u64 a0_3, .string a0_4] 30 (0, 0)) (kz_ BK271.out) hb); have n1_ := Aside0.mk (below_step (bs1_ GE271.out) hb); clear BK271; clear HB; have BK271 := n0_; have HB := n1_; clear n0_ n1_; (try clear hb); (try clear hb2); (try clear hk); (try clear hi))))
     go_meet
     case rel => exact ⟨_, (false), ez_, H', ⟨by first | omega | exact Nat.le_refl _⟩, ⟨kz_ BK271.out⟩, ⟨bs1_ GE271.out⟩⟩
   ·
    rw [if_neg c8] at H
    have c8b0 : ((a0_0.size : Int) == 32) = false := beq_eq_false_iff_ne.mpr c8
    have c8b1 : ((a0_0.size : Int) != 32) = true := bne_iff_ne.mpr c8
    (first | rw [c8b0] | (simp only [i64_w, i32_w]; rw [c8b0]) | skip)
    have H' := Aside0.mk H
    clear H
    have hcz17_0 : w6.cell? ⟨gb271, 0, none⟩ = some (.string a0_0) := (blk_cell BK271.out 0).trans rfl
    have hcz17_1 : w6.cell? ⟨gb271, 1, none⟩ = some (.slice A0_1 l0_1.length c0_1) := (blk_cell BK271.out 1).trans rfl
    have hcz17_2 : w6.cell? ⟨gb271, 2, none⟩ = some (.string a0_2) := (blk_cell BK271.out 2).trans rfl
    have hcz17_3 : w6.cell? ⟨gb271, 3, none⟩ = some (.int .u64 a0_3) := (blk_cell BK271.out 3).trans rfl
    have hcz17_4 : w6.cell? ⟨gb271, 4, none⟩ = some (.string a0_4) := (blk_cell BK271.out 4).trans rfl
    have hfz17_0 := blk_frozen BK271.out 0
    have hfz17_1 := blk_frozen BK271.out 1
    have hfz17_2 := blk_frozen BK271.out 2
    have hfz17_3 := blk_frozen BK271.out 3
    have hfz17_4 := blk_frozen BK271.out 4
    go_wp2
    repeat (go_quiet (fail); try go_wp2)
    go_meet
    case rel => exact ⟨_, (false), ez_, H', ⟨by first | omega | exact Nat.le_refl _⟩, ⟨kz_ BK271.out⟩, ⟨bs1_ GE271.out⟩⟩
  case rest =>
   clear HC5
   try clear c1
   try clear c2
   try clear c2b0
   try clear c2b1
   try clear p2
   try clear c8
   try clear c8b0
   try clear c8b1
   try clear c10
   try clear c13
   try clear hcz12_0
   try clear hcz12_1
   try clear hcz12_2
   try clear hcz12_3
   try clear hcz12_4
   try clear hcz14_0
   try clear hcz14_1
   try clear hcz14_2
   try clear hcz14_3
   try clear hcz14_4
   try clear hcz15_0
   try clear hcz15_1
   try clear hcz15_2
   try clear hcz15_3
   try clear hcz15_4
   try clear hcz17_0
   try clear hcz17_1
   try clear hcz17_2
   try clear hcz17_3
   try clear hcz17_4
   try clear hcz4_0
   try clear hcz4_1
   try clear hcz4_2
   try clear hcz4_3
   try clear hcz4_4
   try clear hcz7_0
   try clear hcz7_1
   try clear hcz7_2
   try clear hcz7_3
   try clear hcz7_4
   try clear hfz12_0
   try clear hfz12_1
   try clear hfz12_2
   try clear hfz12_3
   try clear hfz12_4
   try clear hfz14_0
   try clear hfz14_1
   try clear hfz14_2
   try clear hfz14_3
   try clear hfz14_4
   try clear hfz15_0
   try clear hfz15_1
   try clear hfz15_2
   try clear hfz15_3
   try clear hfz15_4
   try clear hfz17_0
   try clear hfz17_1
   try clear hfz17_2
   try clear hfz17_3
   try clear hfz17_4
   try clear hfz4_0
   try clear hfz4_1
   try clear hfz4_2
   try clear hfz4_3
   try clear hfz4_4
   try clear hfz7_0
   try clear hfz7_1
   try clear hfz7_2
   try clear hfz7_3
   try clear hfz7_4
   obtain ⟨kq, x3_4, rfl, HA, HJ4, BK271, HB⟩ := hcut
   cases kq with
   | zero => exact absurd HA.out (by simp [r7_CheckCommit.j0])
   | succ kj4 =>
    have H := HA.out
    clear HA
    simp only [r7_CheckCommit.j0] at H
    have H' := Aside0.mk H
    clear H
    go_wp2
    repeat (go_quiet (fail); try go_wp2)
    go_loopg [3, 4] kj4 (fun kq v3 v4 w' => ∃ (x3_2 : Bool) (x4_2 : Int), v3 = .bool x3_2 ∧ v4 = .int .i64 x4_2 ∧ Aside0 (r7_CheckCommit.l0 kq x3_2 x4_2 a0_0 l0_1 a0_2 a0_3 a0_4 = some r) ∧ Aside0 (kq ≤ kj4) ∧ Aside0 (w'.heap[gb271]? = some (.cells #[.string a0_0, (.slice A0_1 l0_1.length c0_1), .string a0_2, .int .u64 a0_3, .string a0_4] 30 (0, 0))) ∧ Aside0 (Below w.heap.size w w'))
    case atStart => exact ⟨(x3_4), (0), ez_, ez_, H', ⟨Nat.le_refl _⟩, ⟨kz_ BK271.out⟩, ⟨bs1_ GE271.out⟩⟩
    case round =>
     clear H'
     try clear c1
     try clear c2
     try clear c2b0
     try clear c2b1
     try clear p2
     try clear c8
     try clear c8b0
     try clear c8b1
     try clear c10
     try clear c13
     try clear hcz12_0
     try clear hcz12_1
     try clear hcz12_2
     try clear hcz12_3
     try clear hcz12_4
     try clear hcz14_0
     try clear hcz14_1
     try clear hcz14_2
     try clear hcz14_3
     try clear hcz14_4
     try clear hcz15_0
     try clear hcz15_1
     try clear hcz15_2
     try clear hcz15_3
     try clear hcz15_4
     try clear hcz17_0
     try clear hcz17_1
     try clear hcz17_2
     try clear hcz17_3
     try clear hcz17_4
     try clear hcz4_0
     try clear hcz4_1
     try clear hcz4_2
     try clear hcz4_3
     try clear hcz4_4
     try clear hcz7_0
     try clear hcz7_1
     try clear hcz7_2
     try clear hcz7_3
     try clear hcz7_4
     try clear hfz12_0
     try clear hfz12_1
     try clear hfz12_2
     try clear hfz12_3
     try clear hfz12_4
     try clear hfz14_0
     try clear hfz14_1
     try clear hfz14_2
     try clear hfz14_3
     try clear hfz14_4
     try clear hfz15_0
     try clear hfz15_1
     try clear hfz15_2
     try clear hfz15_3
     try clear hfz15_4
     try clear hfz17_0
     try clear hfz17_1
     try clear hfz17_2
     try clear hfz17_3
     try clear hfz17_4
     try clear hfz4_0
     try clear hfz4_1
     try clear hfz4_2
     try clear hfz4_3
     try clear hfz4_4
     try clear hfz7_0
     try clear hfz7_1
     try clear hfz7_2
     try clear hfz7_3
     try clear hfz7_4
     try clear p2
     obtain ⟨x3_2, x4_2, rfl, rfl, HA, HK2, BK271, HB⟩ := hrel
     cases gk with
     | zero => exact absurd HA.out (by simp [r7_CheckCommit.l0])
     | succ k2 =>
      have H := HA.out
      clear HA
      simp only [r7_CheckCommit.l0] at H
      by_cases c18 : x4_2 < (l0_1.length : Int)
      ·
       rw [if_pos c18] at H
       have c18b0 : decide (x4_2 < (l0_1.length : Int)) = true := decide_eq_true c18
       clear c18
       have HC19 := Aside0.mk H
       clear H
       have hcz20_0 : wr.cell? ⟨gb271, 0, none⟩ = some (.string a0_0) := (blk_cell BK271.out 0).trans rfl
       have hcz20_1 : wr.cell? ⟨gb271, 1, none⟩ = some (.slice A0_1 l0_1.length c0_1) := (blk_cell BK271.out 1).trans rfl
       have hcz20_2 : wr.cell? ⟨gb271, 2, none⟩ = some (.string a0_2) := (blk_cell BK271.out 2).trans rfl
       have hcz20_3 : wr.cell? ⟨gb271, 3, none⟩ = some (.int .u64 a0_3) := (blk_cell BK271.out 3).trans rfl
       have hcz20_4 : wr.cell? ⟨gb271, 4, none⟩ = some (.string a0_4) := (blk_cell BK271.out 4).trans rfl
       have hfz20_0 := blk_frozen BK271.out 0
       have hfz20_1 := blk_frozen BK271.out 1
       have hfz20_2 := blk_frozen BK271.out 2
       have hfz20_3 := blk_frozen BK271.out 3
       have hfz20_4 := blk_frozen BK271.out 4
       go_upto_region 7 with (fail)
       repeat (go_quiet (fail); go_upto_region 7 with (fail))
       go_cut [3] (fun v3 wc => ∃ (kq : Nat) (x3_18 : Bool), v3 = .bool x3_18 ∧ Aside0 (r7_CheckCommit.j2 kq x3_18 x4_2 a0_0 l0_1 a0_2 a0_3 a0_4 = some r) ∧ Aside0 (kq ≤ k2) ∧ Aside0 (wc.heap[gb271]? = some (.cells #[.string a0_0, (.slice A0_1 l0_1.length c0_1), .string a0_2, .int .u64 a0_3, .string a0_4] 30 (0, 0))) ∧ Aside0 (Below w.heap.size w wc))
       case first =>
        have H := HC19.out
        clear HC19
        by_cases c21 : x3_2 = true
        ·
         subst c21
         have H1 := H
         rw [if_pos rfl] at H1
         clear H
         have H := H1
         clear H1
         by_cases c22 : 0 ≤ x4_2
         ·
          rw [if_pos c22] at H
          have c22b0 : decide (0 ≤ x4_2) = true := decide_eq_true c22
          clear c22
          (first | rw [c22b0] | (simp only [i64_w, i32_w]; rw [c22b0]) | skip)
          have H' := Aside0.mk H
          clear H
          have hcz23_0 : wr.cell? ⟨gb271, 0, none⟩ = some (.string a0_0) := (blk_cell BK271.out 0).trans rfl
          have hcz23_1 : wr.cell? ⟨gb271, 1, none⟩ = some (.slice A0_1 l0_1.length c0_1) := (blk_cell BK271.out 1).trans rfl
          have hcz23_2 : wr.cell? ⟨gb271, 2, none⟩ = some (.string a0_2) := (blk_cell BK271.out 2).trans rfl
          have hcz23_3 : wr.cell? ⟨gb271, 3, none⟩ = some (.int .u64 a0_3) := (blk_cell BK271.out 3).trans rfl
          have hcz23_4 : wr.cell? ⟨gb271, 4, none⟩ = some (.string a0_4) := (blk_cell BK271.out 4).trans rfl
          have hfz23_0 := blk_frozen BK271.out 0
          have hfz23_1 := blk_frozen BK271.out 1
          have hfz23_2 := blk_frozen BK271.out 2
          have hfz23_3 := blk_frozen BK271.out 3
          have hfz23_4 := blk_frozen BK271.out 4
          have p274 : 0 ≤ (x4_2 : Int) := of_decide_eq_true az_
          have q274 : x4_2 < (l0_1.length : Int) := of_decide_eq_true az_
          obtain ⟨ad274, e274, hx274_0⟩ := Kd.at_string HR0_1.out x4_2 p274 q274
          cases e274
          replace hx274_0 := (HB.out.cell (World.block_lt_of_cell? w _ hx274_0)).trans hx274_0
          replace p274 := eq_true p274
          replace q274 := eq_true q274
          go_wp2
          repeat (go_quiet (fail); try go_wp2)
          go_meet
          case rel => exact ⟨_, ((((rdOf ByteArray.empty l0_1 x4_2).size : Int) == 32)), ez_, H', ⟨by have := HJ4.out; have := HK2.out; first | omega | exact Nat.le_refl _⟩, ⟨kz_ BK271.out⟩, ⟨bs1_ GE271.out⟩⟩
         · rw [if_neg c22] at H
           exact absurd H (by simp)
        · replace c21 := Bool.eq_false_iff.mpr c21
          subst c21
          have H1 := H
          rw [if_neg (show ¬ (false = true) by decide)] at H1
          clear H
          have H := H1
          clear H1
          have H' := Aside0.mk H
          clear H
          go_wp2
          repeat (go_quiet (fail); try go_wp2)
          go_meet
          case rel => exact ⟨_, (false), ez_, H', ⟨by have := HJ4.out; have := HK2.out; first | omega | exact Nat.le_refl _⟩, ⟨kz_ BK271.out⟩, ⟨bs1_ GE271.out⟩⟩
       case rest =>
        clear HC19
        try clear c1
        try clear c2
        try clear c2b0
        try clear c2b1
        try clear p2
        try clear q2
        try clear hx2
        try clear c8
        try clear c8b0
        try clear c8b1
        try clear c10
        try clear c13
        try clear c18
        try clear c18b0
        try clear c21
        try clear c22
        try clear c22b0
        try clear hcz12_0
        try clear hcz12_1
        try clear hcz12_2
        try clear hcz12_3
        try clear hcz12_4
        try clear hcz14_0
        try clear hcz14_1
        try clear hcz14_2
        try clear hcz14_3
        try clear hcz14_4
        try clear hcz15_0
        try clear hcz15_1
        try clear hcz15_2
        try clear hcz15_3
        try clear hcz15_4
        try clear hcz17_0
        try clear hcz17_1
        try clear hcz17_2
        try clear hcz17_3
        try clear hcz17_4
        try clear hcz20_0
        try clear hcz20_1
        try clear hcz20_2
        try clear hcz20_3
        try clear hcz20_4
        try clear hcz23_0
        try clear hcz23_1
        try clear hcz23_2
        try clear hcz23_3
        try clear hcz23_4
        try clear hcz4_0
        try clear hcz4_1
        try clear hcz4_2
        try clear hcz4_3
        try clear hcz4_4
        try clear hcz7_0
        try clear hcz7_1
        try clear hcz7_2
        try clear hcz7_3
        try clear hcz7_4
        try clear hfz12_0
        try clear hfz12_1
        try clear hfz12_2
        try clear hfz12_3
        try clear hfz12_4
        try clear hfz14_0
        try clear hfz14_1
        try clear hfz14_2
        try clear hfz14_3
        try clear hfz14_4
        try clear hfz15_0
        try clear hfz15_1
        try clear hfz15_2
        try clear hfz15_3
        try clear hfz15_4
        try clear hfz17_0
        try clear hfz17_1
        try clear hfz17_2
        try clear hfz17_3
        try clear hfz17_4
        try clear hfz20_0
        try clear hfz20_1
        try clear hfz20_2
        try clear hfz20_3
        try clear hfz20_4
        try clear hfz23_0
        try clear hfz23_1
        try clear hfz23_2
        try clear hfz23_3
        try clear hfz23_4
        try clear hfz4_0
        try clear hfz4_1
        try clear hfz4_2
        try clear hfz4_3
        try clear hfz4_4
        try clear hfz7_0
        try clear hfz7_1
        try clear hfz7_2
        try clear hfz7_3
        try clear hfz7_4
        try clear hx274_0
        try clear p2
        try clear p274
        try clear q274
        obtain ⟨kq, x3_18, rfl, HA, HJ18, BK271, HB⟩ := hcut
        cases kq with
        | zero => exact absurd HA.out (by simp [r7_CheckCommit.j2])
        | succ kj18 =>
         have H := HA.out
         clear HA
         simp only [r7_CheckCommit.j2] at H
         have H' := Aside0.mk H
         clear H
         go_wp2
         repeat (go_quiet (fail); try go_wp2)
         go_loopg [3, 5] kj18 (fun kq v3 v5 w' => ∃ (x3_4 : Bool) (x5_4 : Int), v3 = .bool x3_4 ∧ v5 = .int .i64 x5_4 ∧ Aside0 (r7_CheckCommit.l1 kq x3_4 x4_2 x5_4 a0_0 l0_1 a0_2 a0_3 a0_4 = some r) ∧ Aside0 (kq ≤ kj18) ∧ Aside0 (w'.heap[gb271]? = some (.cells #[.string a0_0, (.slice A0_1 l0_1.length c0_1), .string a0_2, .int .u64 a0_3, .string a0_4] 30 (0, 0))) ∧ Aside0 (Below w.heap.size w w'))
         case atStart => exact ⟨(x3_18), (0), ez_, ez_, H', ⟨Nat.le_refl _⟩, ⟨kz_ BK271.out⟩, ⟨bs1_ GE271.out⟩⟩
         case round =>
          clear H'
          try clear c1
          try clear c2
          try clear c2b0
          try clear c2b1
          try clear p2
          try clear q2
          try clear hx2
          try clear c8
          try clear c8b0
          try clear c8b1
          try clear c10
          try clear c13
          try clear c18
          try clear c18b0
          try clear c21
          try clear c22
          try clear c22b0
          try clear hcz12_0
          try clear hcz12_1
          try clear hcz12_2
          try clear hcz12_3
          try clear hcz12_4
          try clear hcz14_0
          try clear hcz14_1
          try clear hcz14_2
          try clear hcz14_3
          try clear hcz14_4
          try clear hcz15_0
          try clear hcz15_1
          try clear hcz15_2
          try clear hcz15_3
          try clear hcz15_4
          try clear hcz17_0
          try clear hcz17_1
          try clear hcz17_2
          try clear hcz17_3
          try clear hcz17_4
          try clear hcz20_0
          try clear hcz20_1
          try clear hcz20_2
          try clear hcz20_3
          try clear hcz20_4
          try clear hcz23_0
          try clear hcz23_1
          try clear hcz23_2
          try clear hcz23_3
          try clear hcz23_4
          try clear hcz4_0
          try clear hcz4_1
          try clear hcz4_2
          try clear hcz4_3
          try clear hcz4_4
          try clear hcz7_0
          try clear hcz7_1
          try clear hcz7_2
          try clear hcz7_3
          try clear hcz7_4
          try clear hfz12_0
          try clear hfz12_1
          try clear hfz12_2
          try clear hfz12_3
          try clear hfz12_4
          try clear hfz14_0
          try clear hfz14_1
          try clear hfz14_2
          try clear hfz14_3
          try clear hfz14_4
          try clear hfz15_0
          try clear hfz15_1
          try clear hfz15_2
          try clear hfz15_3
          try clear hfz15_4
          try clear hfz17_0
          try clear hfz17_1
          try clear hfz17_2
          try clear hfz17_3
          try clear hfz17_4
          try clear hfz20_0
          try clear hfz20_1
          try clear hfz20_2
          try clear hfz20_3
          try clear hfz20_4
          try clear hfz23_0
          try clear hfz23_1
          try clear hfz23_2
          try clear hfz23_3
          try clear hfz23_4
          try clear hfz4_0
          try clear hfz4_1
          try clear hfz4_2
          try clear hfz4_3
          try clear hfz4_4
          try clear hfz7_0
          try clear hfz7_1
          try clear hfz7_2
          try clear hfz7_3
          try clear hfz7_4
          try clear hx274_0
          try clear p2
          try clear p274
          try clear q2
          try clear q274
          obtain ⟨x3_4, x5_4, rfl, rfl, HA, HK4, BK271, HB⟩ := hrel
          cases gk with
          | zero => exact absurd HA.out (by simp [r7_CheckCommit.l1])
          | succ k4 =>
           have H := HA.out
           clear HA
           simp only [r7_CheckCommit.l1] at H
           by_cases c24 : x5_4 < x4_2
           ·
            rw [if_pos c24] at H
            have c24b0 : decide (x5_4 < x4_2) = true := decide_eq_true c24
            clear c24
            by_cases c25 : x3_4 = true
            ·
             subst c25
             have H1 := H
             rw [if_pos rfl] at H1
             clear H
             have H := H1
             clear H1
             by_cases c26 : 0 ≤ x5_4
             ·
              rw [if_pos c26] at H
              have c26b0 : decide (0 ≤ x5_4) = true := decide_eq_true c26
              clear c26
              by_cases c27 : x5_4 < (l0_1.length : Int)
              ·
               rw [if_pos c27] at H
               have c27b0 : decide (x5_4 < (l0_1.length : Int)) = true := decide_eq_true c27
               clear c27
               by_cases c28 : 0 ≤ x4_2
               ·
                rw [if_pos c28] at H
                have c28b0 : decide (0 ≤ x4_2) = true := decide_eq_true c28
                clear c28
                by_cases c29 : x4_2 < (l0_1.length : Int)
                ·
                 rw [if_pos c29] at H
                 have c29b0 : decide (x4_2 < (l0_1.length : Int)) = true := decide_eq_true c29
                 clear c29
                 have H' := Aside0.mk H
                 clear H
                 have hcz30_0 : wr.cell? ⟨gb271, 0, none⟩ = some (.string a0_0) := (blk_cell BK271.out 0).trans rfl
                 have hcz30_1 : wr.cell? ⟨gb271, 1, none⟩ = some (.slice A0_1 l0_1.length c0_1) := (blk_cell BK271.out 1).trans rfl
                 have hcz30_2 : wr.cell? ⟨gb271, 2, none⟩ = some (.string a0_2) := (blk_cell BK271.out 2).trans rfl
                 have hcz30_3 : wr.cell? ⟨gb271, 3, none⟩ = some (.int .u64 a0_3) := (blk_cell BK271.out 3).trans rfl
                 have hcz30_4 : wr.cell? ⟨gb271, 4, none⟩ = some (.string a0_4) := (blk_cell BK271.out 4).trans rfl
                 have hfz30_0 := blk_frozen BK271.out 0
                 have hfz30_1 := blk_frozen BK271.out 1
                 have hfz30_2 := blk_frozen BK271.out 2
                 have hfz30_3 := blk_frozen BK271.out 3
                 have hfz30_4 := blk_frozen BK271.out 4
                 have p275 : 0 ≤ (x5_4 : Int) := of_decide_eq_true az_
                 have q275 : x5_4 < (l0_1.length : Int) := of_decide_eq_true az_
                 obtain ⟨ad275, e275, hx275_0⟩ := Kd.at_string HR0_1.out x5_4 p275 q275
                 cases e275
                 replace hx275_0 := (HB.out.cell (World.block_lt_of_cell? w _ hx275_0)).trans hx275_0
                 replace p275 := eq_true p275
                 replace q275 := eq_true q275
                 have p276 : 0 ≤ (x4_2 : Int) := of_decide_eq_true az_
                 have q276 : x4_2 < (l0_1.length : Int) := of_decide_eq_true az_
                 obtain ⟨ad276, e276, hx276_0⟩ := Kd.at_string HR0_1.out x4_2 p276 q276
                 obtain rfl : ad275 = ad276 := (by injection e276)
                 replace hx276_0 := (HB.out.cell (World.block_lt_of_cell? w _ hx276_0)).trans hx276_0
                 replace p276 := eq_true p276
                 replace q276 := eq_true q276
                 go_wp2
                 repeat (go_quiet (fail); try go_wp2)
                 go_roundg k4
                 case measure => have := HJ4.out; have := HK2.out; have := HJ18.out; have := HK4.out; omega
                 case rel => exact ⟨(((rdOf ByteArray.empty l0_1 x5_4).toList != (rdOf ByteArray.empty l0_1 x4_2).toList)), (wrap64 (x5_4 + 1)), ez_, ez_, H', ⟨by have := HJ4.out; have := HK2.out; have := HJ18.out; have := HK4.out; omega⟩, ⟨kz_ BK271.out⟩, ⟨bs1_ GE271.out⟩⟩
                · rw [if_neg c29] at H
                  exact absurd H (by simp)
               · rw [if_neg c28] at H
                 exact absurd H (by simp)
              · rw [if_neg c27] at H
                exact absurd H (by simp)
             · rw [if_neg c26] at H
               exact absurd H (by simp)
            · replace c25 := Bool.eq_false_iff.mpr c25
              subst c25
              have H1 := H
              rw [if_neg (show ¬ (false = true) by decide)] at H1
              clear H
              have H := H1
              clear H1
              have H' := Aside0.mk H
              clear H
              go_wp2
              repeat (go_quiet (fail); try go_wp2)
              go_roundg k4
              case measure => have := HJ4.out; have := HK2.out; have := HJ18.out; have := HK4.out; omega
              case rel => exact ⟨(false), (wrap64 (x5_4 + 1)), ez_, ez_, H', ⟨by have := HJ4.out; have := HK2.out; have := HJ18.out; have := HK4.out; omega⟩, ⟨kz_ BK271.out⟩, ⟨bs1_ GE271.out⟩⟩
           · rw [if_neg c24] at H
             have c24b0 : decide (x5_4 < x4_2) = false := decide_eq_false c24
             clear c24
             have H' := Aside0.mk H
             clear H
             go_wp2
             repeat (go_quiet (fail); try go_wp2)
             go_roundg k4
             case measure => have := HJ4.out; have := HK2.out; have := HJ18.out; have := HK4.out; omega
             case rel => exact ⟨(x3_4), (wrap64 (x4_2 + 1)), ez_, ez_, H', ⟨by have := HJ4.out; have := HK2.out; have := HJ18.out; have := HK4.out; omega⟩, ⟨kz_ BK271.out⟩, ⟨bs1_ GE271.out⟩⟩
      ·
       rw [if_neg c18] at H
       have c18b0 : decide (x4_2 < (l0_1.length : Int)) = false := decide_eq_false c18
       clear c18
       by_cases c31 : x3_2 = true
       ·
        subst c31
        have H1 := H
        rw [if_pos rfl] at H1
        clear H
        have H := H1
        clear H1
        obtain rfl := Option.some.inj H
        have hcz32_0 : wr.cell? ⟨gb271, 0, none⟩ = some (.string a0_0) := (blk_cell BK271.out 0).trans rfl
        have hcz32_1 : wr.cell? ⟨gb271, 1, none⟩ = some (.slice A0_1 l0_1.length c0_1) := (blk_cell BK271.out 1).trans rfl
        have hcz32_2 : wr.cell? ⟨gb271, 2, none⟩ = some (.string a0_2) := (blk_cell BK271.out 2).trans rfl
        have hcz32_3 : wr.cell? ⟨gb271, 3, none⟩ = some (.int .u64 a0_3) := (blk_cell BK271.out 3).trans rfl
        have hcz32_4 : wr.cell? ⟨gb271, 4, none⟩ = some (.string a0_4) := (blk_cell BK271.out 4).trans rfl
        have hfz32_0 := blk_frozen BK271.out 0
        have hfz32_1 := blk_frozen BK271.out 1
        have hfz32_2 := blk_frozen BK271.out 2
        have hfz32_3 := blk_frozen BK271.out 3
        have hfz32_4 := blk_frozen BK271.out 4
        go_wp2
        repeat (go_quiet (fail); try go_wp2)
        go_ret
        exact ⟨xz_, bs1_ GE271.out⟩
       ·
        replace c31 := Bool.eq_false_iff.mpr c31
        subst c31
        have H1 := H
        rw [if_neg (show ¬ (false = true) by decide)] at H1
        clear H
        have H := H1
        clear H1
        obtain rfl := Option.some.inj H
        have hcz33_0 : wr.cell? ⟨gb271, 0, none⟩ = some (.string a0_0) := (blk_cell BK271.out 0).trans rfl
        have hcz33_1 : wr.cell? ⟨gb271, 1, none⟩ = some (.slice A0_1 l0_1.length c0_1) := (blk_cell BK271.out 1).trans rfl
        have hcz33_2 : wr.cell? ⟨gb271, 2, none⟩ = some (.string a0_2) := (blk_cell BK271.out 2).trans rfl
        have hcz33_3 : wr.cell? ⟨gb271, 3, none⟩ = some (.int .u64 a0_3) := (blk_cell BK271.out 3).trans rfl
        have hcz33_4 : wr.cell? ⟨gb271, 4, none⟩ = some (.string a0_4) := (blk_cell BK271.out 4).trans rfl
        have hfz33_0 := blk_frozen BK271.out 0
        have hfz33_1 := blk_frozen BK271.out 1
        have hfz33_2 := blk_frozen BK271.out 2
        have hfz33_3 := blk_frozen BK271.out 3
        have hfz33_4 := blk_frozen BK271.out 4
        go_wp2
        repeat (go_quiet (fail); try go_wp2)
        go_ret
        exact ⟨xz_, bs1_ GE271.out⟩

end Go.Proofs.YtnapcfpecpgdbaaDoor.M
