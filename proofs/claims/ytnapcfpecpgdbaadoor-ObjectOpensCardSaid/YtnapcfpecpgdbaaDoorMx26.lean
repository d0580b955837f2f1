/- The program's functions as plain functions, and that each call comes to what these tell; written by a program of this session, some contracts by hand. Conditions: none. -/
import Derived.Test.YtnapcfpecpgdbaaDoorMx0
import Derived.Test.YtnapcfpecpgdbaaDoorMx6
import Derived.Test.YtnapcfpecpgdbaaDoorMx19
import Derived.Test.YtnapcfpecpgdbaaDoorMx20
import Derived.Test.YtnapcfpecpgdbaaDoorMx25
namespace Go.Proofs.YtnapcfpecpgdbaaDoor.M
open Go.RowKit Go.Proofs.YtnapcfpecpgdbaaDoorW.PrintWords Go.Proofs.YtnapcfpecpgdbaaDoorW.PrintLast Go.Proofs.YtnapcfpecpgdbaaDoorW.PrintMore
attribute [local go_sem] max2_int min2_int max_two min_two max_three min_three max_four min_four   -- for this text's walks alone
set_option linter.unusedVariables false
set_option linter.unusedSimpArgs false

/-! ### r7_GetTag: function 48 -/
mutual
def r7_GetTag.l0 : Nat → ByteArray → ByteArray → Bool → ByteArray → Bool → Bool → Int → ByteArray → Int → ByteArray → ByteArray → Option (ByteArray × Int × ByteArray × ByteArray × Int)
 | 0, _, _, _, _, _, _, _, _, _, _, _ => none
 | k + 1, x4, x5, x6, x7, x8, x10, x12, x348000, x348001, x348002, x348003 => if x12 < 5 then ((r7_kind.f x12).bind fun t348 => (if t348.toList = x7.toList then (r7_GetTag.l0 k x4 x5 x6 x7 x8 x10 (wrap64 (x12 + 1)) x348000 x12 x348002 x348003) else (r7_GetTag.l0 k x4 x5 x6 x7 x8 x10 (wrap64 (x12 + 1)) x348000 x348001 x348002 x348003))) else ((r7_id.f k x4).bind fun bt349 => (if x6 = true then (if x8 = true then (if x10 = true then (if (x5.size : Int) = 0 then (r7_GetTag.j1 k x5 true bt349.1 x348001 x348002 x348003) else (if 0 < (x5.size : Int) then (if (bt x5 0) = 10 then (if x348001 = 0 then (r7_GetTag.j1 k x5 true bt349.1 x348001 x348002 x348003) else (r7_GetTag.j1 k x5 ((bt349.1.size : Int) != 32) bt349.1 x348001 x348002 x348003)) else (r7_GetTag.j1 k x5 true bt349.1 x348001 x348002 x348003)) else (none))) else (r7_GetTag.j1 k x5 true bt349.1 x348001 x348002 x348003)) else (r7_GetTag.j1 k x5 true bt349.1 x348001 x348002 x348003)) else (r7_GetTag.j1 k x5 true bt349.1 x348001 x348002 x348003)))
def r7_GetTag.j1 : Nat → ByteArray → Bool → ByteArray → Int → ByteArray → ByteArray → Option (ByteArray × Int × ByteArray × ByteArray × Int)
 | 0, _, _, _, _, _, _ => none
 | k + 1, x5, x80, x348000, x348001, x348002, x348003 => if x80 = true then (some ((⟨#[]⟩ : ByteArray), 0, (⟨#[]⟩ : ByteArray), (⟨#[]⟩ : ByteArray), 6)) else (if 1 ≤ (x5.size : Int) then ((r7_CheckTag.f k x348000 x348001 x348002 (x5.extract 1 x5.size)).bind fun t351 => (if t351 = 0 then (some (x348000, x348001, x348002, x5.extract 1 x5.size, 0)) else (some ((⟨#[]⟩ : ByteArray), 0, (⟨#[]⟩ : ByteArray), (⟨#[]⟩ : ByteArray), t351)))) else (none))
end
def r7_GetTag.f (k : Nat) (a0 : ByteArray) : Option (ByteArray × Int × ByteArray × ByteArray × Int) := (r7_line.f k a0 (⟨#[111, 98, 106, 101, 99, 116]⟩ : ByteArray)).bind fun bt338 => ((r7_line.f k bt338.2.1 (⟨#[107, 105, 110, 100]⟩ : ByteArray)).bind fun bt341 => ((r7_line.f k bt341.2.1 (⟨#[110, 97, 109, 101]⟩ : ByteArray)).bind fun bt344 => (r7_GetTag.l0 k bt338.1 bt344.2.1 bt338.2.2 bt341.1 bt341.2.2 bt344.2.2 1 (⟨#[]⟩ : ByteArray) 0 bt344.1 (⟨#[]⟩ : ByteArray))))
theorem r7_GetTag.mono_l : ∀ k, (∀ y0 y1 y2 y3 y4 y5 y6 y7 y8 y9 y10, LeO (r7_GetTag.l0 k y0 y1 y2 y3 y4 y5 y6 y7 y8 y9 y10) (r7_GetTag.l0 (k + 1) y0 y1 y2 y3 y4 y5 y6 y7 y8 y9 y10)) ∧ (∀ y0 y1 y2 y3 y4 y5, LeO (r7_GetTag.j1 k y0 y1 y2 y3 y4 y5) (r7_GetTag.j1 (k + 1) y0 y1 y2 y3 y4 y5))
 | 0 => ⟨fun _ _ _ _ _ _ _ _ _ _ _ r h => by simp [r7_GetTag.l0] at h, fun _ _ _ _ _ _ r h => by simp [r7_GetTag.j1] at h⟩
 | k + 1 => by
  obtain ⟨ih0, ih1⟩ := r7_GetTag.mono_l k
  refine ⟨?_, ?_⟩
  all_goals (intros; first | unfold r7_GetTag.l0 | unfold r7_GetTag.j1)
  all_goals repeat' with_reducible first | exact ih0 _ _ _ _ _ _ _ _ _ _ _ | exact ih1 _ _ _ _ _ _ | exact r7_CheckTag.mono _ _ _ _ _ | exact r7_id.mono _ _ | exact r7_line.mono _ _ _ | exact LeO.refl _ | exact LeO.none _ | refine LeO.ite ?_ ?_ | refine LeO.bind ?_ (fun _ => ?_)
theorem r7_GetTag.mono : ∀ a0 k, LeO (r7_GetTag.f k a0) (r7_GetTag.f (k + 1) a0) := by
 intro a0 k
 obtain ⟨ih0, ih1⟩ := r7_GetTag.mono_l k
 unfold r7_GetTag.f
 repeat' with_reducible first | exact ih0 _ _ _ _ _ _ _ _ _ _ _ | exact ih1 _ _ _ _ _ _ | exact r7_CheckTag.mono _ _ _ _ _ | exact r7_id.mono _ _ | exact r7_line.mono _ _ _ | exact LeO.refl _ | exact LeO.none _ | refine LeO.ite ?_ ?_ | refine LeO.bind ?_ (fun _ => ?_)
set_option maxHeartbeats 8000000 in
set_option maxRecDepth 100000 in
theorem r7_GetTag.calls (k : Nat) (a0 : ByteArray) (r1 : ByteArray) (r2 : Int) (r3 : ByteArray) (r4 : ByteArray) (r5 : Int) (w : World) (h : r7_GetTag.f k a0 = some (r1, r2, r3, r4, r5)) :
 Calls Tryd.prog 48 #[.string a0] w fun e w' => e = .returned (.tuple #[.agg #[.string r1, .int .i64 r2, .string r3, .string r4], .int .i64 r5]) ∧ Below w.heap.size w w' := by
 have hu87 := Tryd.underlying87
 have HB := Aside0.mk (Below.refl w.heap.size w)
 have H : ((r7_line.f k a0 (⟨#[111, 98, 106, 101, 99, 116]⟩ : ByteArray)).bind fun bt338 => ((r7_line.f k bt338.2.1 (⟨#[107, 105, 110, 100]⟩ : ByteArray)).bind fun bt341 => ((r7_line.f k bt341.2.1 (⟨#[110, 97, 109, 101]⟩ : ByteArray)).bind fun bt344 => (r7_GetTag.l0 k bt338.1 bt344.2.1 bt338.2.2 bt341.1 bt341.2.2 bt344.2.2 1 (⟨#[]⟩ : ByteArray) 0 bt344.1 (⟨#[]⟩ : ByteArray))))) = some (r1, r2, r3, r4, r5) := h
 clear h
 replace H := Option.bind_eq_some_iff.mp H
 obtain ⟨⟨t338, t339, t340⟩, A20, H⟩ := H
 try dsimp only at H
 have A2 := Aside0.mk A20
 clear A20
 replace H := Option.bind_eq_some_iff.mp H
 obtain ⟨⟨t341, t342, t343⟩, A30, H⟩ := H
 try dsimp only at H
 have A3 := Aside0.mk A30
 clear A30
 replace H := Option.bind_eq_some_iff.mp H
 obtain ⟨⟨t344, t345, t346⟩, A40, H⟩ := H
 try dsimp only at H
 have A4 := Aside0.mk A40
 clear A40
 have H' := Aside0.mk H
 clear H
 go_enter Tryd.func48, Tryd.ntmps48
 go_wp2_with (first | ((with_reducible refine gate_dst (N := 2) rfl ?_); (try (refine gate_guard (by rfl) ?_; dsimp only)); refine box_event ?hg (N := 2) ?hd (cs := #[.string (⟨#[]⟩ : ByteArray), .int .i64 0, .string (⟨#[]⟩ : ByteArray), .string (⟨#[]⟩ : ByteArray)]) (t := 87) ?hr ?_; (case hd => rfl); (case hg => rfl); (case hr => first | (go_simp; done) | (go_simp; rfl)); intro gb337 hg w5 hbox hb; have n0_ := Aside0.mk (below_step bz_ hb); have n1_ := Aside0.mk (hbox); have n2_ := Aside0.mk ((by rw [hg]; exact (below_size bz_) : w.heap.size ≤ gb337)); have n3_ := Aside0.mk ((by rw [hg]; exact (below_size bz_) : w.heap.size ≤ gb337)); clear HB; have HB := n0_; have BK337 := n1_; have GW337 := n2_; have GE337 := n3_; clear n0_ n1_ n2_ n3_; clear hb hbox hg) | ((with_reducible refine gate_callee (f := 24) rfl ?_); refine goesM_ (some 16) Tryd.func24 #[.string a0, .string (⟨#[111, 98, 106, 101, 99, 116]⟩ : ByteArray)] ?_; (with_reducible refine (r7_line.calls k a0 (⟨#[111, 98, 106, 101, 99, 116]⟩ : ByteArray) t338 t339 t340 _ A2.out).mono ?_); rintro e w' ⟨rfl, ⟨nd, rfl⟩⟩; refine ⟨_, rfl, ?_⟩; (try (rw [drewN_self w5]; generalize hq_ : World.drewN w5 _ = w5; have n0_ : Aside0 (w5.heap[gb337]? = some (.cells #[.string (⟨#[]⟩ : ByteArray), .int .i64 0, .string (⟨#[]⟩ : ByteArray), .string (⟨#[]⟩ : ByteArray)] 87 (0, 0))) := ⟨by rw [← hq_]; exact (kz_ BK337.out)⟩; have n1_ : Aside0 (Below w.heap.size w w5) := ⟨by rw [← hq_]; exact (bs1_ GE337.out)⟩; clear BK337 HB hq_; have BK337 := n0_; have HB := n1_; clear n0_ n1_))) | ((with_reducible refine gate_callee (f := 24) rfl ?_); refine goesM_ (some 22) Tryd.func24 #[.string t339, .string (⟨#[107, 105, 110, 100]⟩ : ByteArray)] ?_; (with_reducible refine (r7_line.calls k t339 (⟨#[107, 105, 110, 100]⟩ : ByteArray) t341 t342 t343 _ A3.out).mono ?_); rintro e w' ⟨rfl, ⟨nd, rfl⟩⟩; refine ⟨_, rfl, ?_⟩; (try (rw [drewN_self w5]; generalize hq_ : World.drewN w5 _ = w5; have n0_ : Aside0 (w5.heap[gb337]? = some (.cells #[.string (⟨#[]⟩ : ByteArray), .int .i64 0, .string (⟨#[]⟩ : ByteArray), .string (⟨#[]⟩ : ByteArray)] 87 (0, 0))) := ⟨by rw [← hq_]; exact (kz_ BK337.out)⟩; have n1_ : Aside0 (Below w.heap.size w w5) := ⟨by rw [← hq_]; exact (bs1_ GE337.out)⟩; clear BK337 HB hq_; have BK337 := n0_; have HB := n1_; clear n0_ n1_))) | ((with_reducible refine gate_callee (f := 24) rfl ?_); refine goesM_ (some 28) Tryd.func24 #[.string t342, .string (⟨#[110, 97, 109, 101]⟩ : ByteArray)] ?_; (with_reducible refine (r7_line.calls k t342 (⟨#[110, 97, 109, 101]⟩ : ByteArray) t344 t345 t346 _ A4.out).mono ?_); rintro e w' ⟨rfl, ⟨nd, rfl⟩⟩; refine ⟨_, rfl, ?_⟩; (try (rw [drewN_self w5]; generalize hq_ : World.drewN w5 _ = w5; have n0_ : Aside0 (w5.heap[gb337]? = some (.cells #[.string (⟨#[]⟩ : ByteArray), .int .i64 0, .string (⟨#[]⟩ : ByteArray), .string (⟨#[]⟩ : ByteArray)] 87 (0, 0))) := ⟨by rw [← hq_]; exact (kz_ BK337.out)⟩; have n1_ : Aside0 (Below w.heap.size w w5) := ⟨by rw [← hq_]; exact (bs1_ GE337.out)⟩; clear BK337 HB hq_; have BK337 := n0_; have HB := n1_; clear n0_ n1_))) | ((with_reducible refine gate_dst (N := 11) rfl ?_); (try (refine gate_guard (by rfl) ?_; dsimp only)); refine box_event ?hg (N := 11) ?hd (cs := #[.string (⟨#[]⟩ : ByteArray), .int .i64 0, .string (⟨#[]⟩ : ByteArray), .string (⟨#[]⟩ : ByteArray)]) (t := 87) ?hr ?_; (case hd => rfl); (case hg => rfl); (case hr => first | (go_simp; done) | (go_simp; rfl)); intro gb347 hg w6 hbox hb; have n0_ := Aside0.mk (blk_below (g := gb337) (o := .cells #[.string (⟨#[]⟩ : ByteArray), .int .i64 0, .string (⟨#[]⟩ : ByteArray), .string (⟨#[]⟩ : ByteArray)] 87 (0, 0)) (kz_ BK337.out) hb); have n1_ := Aside0.mk (below_step (bs1_ GE337.out) hb); have n2_ := Aside0.mk (hbox); have n3_ := Aside0.mk ((by rw [hg]; exact (below_size (bs1_ GE337.out)) : w.heap.size ≤ gb347)); have n4_ := Aside0.mk ((by rw [hg]; exact (below_size (bs1_ GE337.out)) : w.heap.size ≤ gb347)); have n5_ := Aside0.mk ((by rw [hg]; exact Nat.ne_of_lt (blk_lt (g := gb337) (o := .cells #[.string (⟨#[]⟩ : ByteArray), .int .i64 0, .string (⟨#[]⟩ : ByteArray), .string (⟨#[]⟩ : ByteArray)] 87 (0, 0)) (kz_ BK337.out)) : gb337 ≠ gb347)); have n6_ := Aside0.mk ((by rw [hg]; exact Nat.ne_of_gt (blk_lt (g := gb337) (o := .cells #[.string (⟨#[]⟩ : ByteArray), .int .i64 0, .string (⟨#[]⟩ : ByteArray), .string (⟨#[]⟩ : ByteArray)] 87 (0, 0)) (kz_ BK337.out)) : gb347 ≠ gb337)); clear BK337; clear HB; have BK337 := n0_; have HB := n1_; have BK347 := n2_; have GW347 := n3_; have GE347 := n4_; have NB337_347 := n5_; have NB347_337 := n6_; clear n0_ n1_ n2_ n3_ n4_ n5_ n6_; clear hb hbox hg; have hnb7 := NB347_337.out; have hnc7 := NB337_347.out; have hcz8_0 : w6.cell? ⟨gb347, 0, none⟩ = some (.string (⟨#[]⟩ : ByteArray)) := (blk_cell BK347.out 0).trans rfl; have hcz8_1 : w6.cell? ⟨gb347, 1, none⟩ = some (.int .i64 0) := (blk_cell BK347.out 1).trans rfl; have hcz8_2 : w6.cell? ⟨gb347, 2, none⟩ = some (.string (⟨#[]⟩ : ByteArray)) := (blk_cell BK347.out 2).trans rfl; have hcz8_3 : w6.cell? ⟨gb347, 3, none⟩ = some (.string (⟨#[]⟩ : ByteArray)) := (blk_cell BK347.out 3).trans rfl; have hfz8_0 := blk_frozen BK347.out 0; have hfz8_1 := blk_frozen BK347.out 1; have hfz8_2 := blk_frozen BK347.out 2; have hfz8_3 := blk_frozen BK347.out 3))
 go_loopg [12] k (fun kq v12 w' => ∃ (x12_1 : Int) (x348001_1 : Int), v12 = .int .i64 x12_1 ∧ Aside0 (r7_GetTag.l0 kq t338 t345 t340 t341 t343 t346 x12_1 (⟨#[]⟩ : ByteArray) x348001_1 t344 (⟨#[]⟩ : ByteArray) = some (r1, r2, r3, r4, r5)) ∧ Aside0 (kq ≤ k) ∧ Aside0 (w'.heap[gb337]? = some (.cells #[.string (⟨#[]⟩ : ByteArray), .int .i64 0, .string (⟨#[]⟩ : ByteArray), .string (⟨#[]⟩ : ByteArray)] 87 (0, 0))) ∧ Aside0 (w'.heap[gb347]? = some (.cells #[.string (⟨#[]⟩ : ByteArray), .int .i64 x348001_1, .string t344, .string (⟨#[]⟩ : ByteArray)] 87 (0, 0))) ∧ Aside0 (Below w.heap.size w w'))
 case atStart => exact ⟨(1), (0), ez_, H', ⟨Nat.le_refl _⟩, ⟨by (with_reducible repeat (first | refine blk_drewN ?_ _ | refine blk_drew ?_ | refine blk_alloc ?_ _)); refine blk_far ?_ NB337_347.out _; (with_reducible repeat (first | refine blk_drewN ?_ _ | refine blk_drew ?_ | refine blk_alloc ?_ _)); refine blk_far ?_ NB337_347.out _; (with_reducible repeat (first | refine blk_drewN ?_ _ | refine blk_drew ?_ | refine blk_alloc ?_ _)); refine blk_far ?_ NB337_347.out _; (with_reducible repeat (first | refine blk_drewN ?_ _ | refine blk_drew ?_ | refine blk_alloc ?_ _)); refine blk_far ?_ NB337_347.out _; (with_reducible repeat (first | refine blk_drewN ?_ _ | refine blk_drew ?_ | refine blk_alloc ?_ _)); exact BK337.out⟩, ⟨by (with_reducible repeat (first | refine blk_drewN ?_ _ | refine blk_drew ?_ | refine blk_alloc ?_ _)); refine blk_put (cs := #[.string (⟨#[]⟩ : ByteArray), .int .i64 0, .string t344, .string (⟨#[]⟩ : ByteArray)]) ?_ 3 _ rfl; (with_reducible repeat (first | refine blk_drewN ?_ _ | refine blk_drew ?_ | refine blk_alloc ?_ _)); refine blk_put (cs := #[.string (⟨#[]⟩ : ByteArray), .int .i64 0, .string (⟨#[]⟩ : ByteArray), .string (⟨#[]⟩ : ByteArray)]) ?_ 2 _ rfl; (with_reducible repeat (first | refine blk_drewN ?_ _ | refine blk_drew ?_ | refine blk_alloc ?_ _)); refine blk_put (cs := #[.string (⟨#[]⟩ : ByteArray), .int .i64 0, .string (⟨#[]⟩ : ByteArray), .string (⟨#[]⟩ : ByteArray)]) ?_ 1 _ rfl; (with_reducible repeat (first | refine blk_drewN ?_ _ | refine blk_drew ?_ | refine blk_alloc ?_ _)); refine blk_put (cs := #[.string (⟨#[]⟩ : ByteArray), .int .i64 0, .string (⟨#[]⟩ : ByteArray), .string (⟨#[]⟩ : ByteArray)]) ?_ 0 _ rfl; (with_reducible repeat (first | refine blk_drewN ?_ _ | refine blk_drew ?_ | refine blk_alloc ?_ _)); exact BK347.out⟩, ⟨bs2_ GE337.out GE347.out⟩⟩
 case round =>
  clear H'
  try clear c2
  try clear p2
  try clear c4
  try clear c7
  try clear hcz8_0
  try clear hcz8_1
  try clear hcz8_2
  try clear hcz8_3
  try clear hfz8_0
  try clear hfz8_1
  try clear hfz8_2
  try clear hfz8_3
  obtain ⟨x12_1, x348001_1, rfl, HA, HK1, BK337, BK347, HB⟩ := hrel
  cases gk with
  | zero => exact absurd HA.out (by simp [r7_GetTag.l0])
  | succ k1 =>
   have H := HA.out
   clear HA
   simp only [r7_GetTag.l0] at H
   by_cases c9 : x12_1 < 5
   ·
    rw [if_pos c9] at H
    have c9b0 : decide (x12_1 < 5) = true := decide_eq_true c9
    clear c9
    replace H := Option.bind_eq_some_iff.mp H
    obtain ⟨t348, A100, H⟩ := H
    try dsimp only at H
    have A10 := Aside0.mk A100
    clear A100
    by_cases c11 : t348.toList = t341.toList
    · rw [if_pos c11] at H
      have c11b0 : (t348.toList == t341.toList) = true := beq_iff_eq.mpr c11
      have c11b1 : (t348.toList != t341.toList) = false := bne_eq_false_iff_eq.mpr c11
      clear c11
      have H' := Aside0.mk H
      clear H
      go_wp2_with (first | ((with_reducible refine gate_callee (f := 44) rfl ?_); refine goesM_ (some 39) Tryd.func44 #[.int .i64 x12_1] ?_; (with_reducible refine (r7_kind.calls x12_1 t348 _ A10.out).mono ?_); rintro e w12 ⟨rfl, hb⟩; refine ⟨_, rfl, ?_⟩; have n0_ := Aside0.mk (blk_below (g := gb337) (o := .cells #[.string (⟨#[]⟩ : ByteArray), .int .i64 0, .string (⟨#[]⟩ : ByteArray), .string (⟨#[]⟩ : ByteArray)] 87 (0, 0)) (kz_ BK337.out) hb); have n1_ := Aside0.mk (blk_below (g := gb347) (o := .cells #[.string (⟨#[]⟩ : ByteArray), .int .i64 x348001_1, .string t344, .string (⟨#[]⟩ : ByteArray)] 87 (0, 0)) (kz_ BK347.out) hb); have n2_ := Aside0.mk (below_step (bs2_ GE337.out GE347.out) hb); clear BK337; clear BK347; clear HB; have BK337 := n0_; have BK347 := n1_; have HB := n2_; clear n0_ n1_ n2_; (try clear hb); (try clear hb2); (try clear hk); (try clear hi); have hnb13 := NB347_337.out; have hnc13 := NB337_347.out; have hcz14_0 : w12.cell? ⟨gb347, 0, none⟩ = some (.string (⟨#[]⟩ : ByteArray)) := (blk_cell BK347.out 0).trans rfl; have hcz14_1 : w12.cell? ⟨gb347, 1, none⟩ = some (.int .i64 x348001_1) := (blk_cell BK347.out 1).trans rfl; have hcz14_2 : w12.cell? ⟨gb347, 2, none⟩ = some (.string t344) := (blk_cell BK347.out 2).trans rfl; have hcz14_3 : w12.cell? ⟨gb347, 3, none⟩ = some (.string (⟨#[]⟩ : ByteArray)) := (blk_cell BK347.out 3).trans rfl; have hfz14_0 := blk_frozen BK347.out 0; have hfz14_1 := blk_frozen BK347.out 1; have hfz14_2 := blk_frozen BK347.out 2; have hfz14_3 := blk_frozen BK347.out 3))
      go_roundg k1
      case measure => have := HK1.out; omega
      case rel => exact ⟨(wrap64 (x12_1 + 1)), (x12_1), ez_, H', ⟨by have := HK1.out; omega⟩, ⟨by (with_reducible repeat (first | refine blk_drewN ?_ _ | refine blk_drew ?_ | refine blk_alloc ?_ _)); refine blk_far ?_ NB337_347.out _; (with_reducible repeat (first | refine blk_drewN ?_ _ | refine blk_drew ?_ | refine blk_alloc ?_ _)); exact BK337.out⟩, ⟨by (with_reducible repeat (first | refine blk_drewN ?_ _ | refine blk_drew ?_ | refine blk_alloc ?_ _)); refine blk_put (cs := #[.string (⟨#[]⟩ : ByteArray), .int .i64 x348001_1, .string t344, .string (⟨#[]⟩ : ByteArray)]) ?_ 1 _ rfl; (with_reducible repeat (first | refine blk_drewN ?_ _ | refine blk_drew ?_ | refine blk_alloc ?_ _)); exact BK347.out⟩, ⟨bs2_ GE337.out GE347.out⟩⟩
    · rw [if_neg c11] at H
      have c11b0 : (t348.toList == t341.toList) = false := beq_eq_false_iff_ne.mpr c11
      have c11b1 : (t348.toList != t341.toList) = true := bne_iff_ne.mpr c11
      have H' := Aside0.mk H
      clear H
      go_wp2_with (first | ((with_reducible refine gate_callee (f := 44) rfl ?_); refine goesM_ (some 39) Tryd.func44 #[.int .i64 x12_1] ?_; (with_reducible refine (r7_kind.calls x12_1 t348 _ A10.out).mono ?_); rintro e w15 ⟨rfl, hb⟩; refine ⟨_, rfl, ?_⟩; have n0_ := Aside0.mk (blk_below (g := gb337) (o := .cells #[.string (⟨#[]⟩ : ByteArray), .int .i64 0, .string (⟨#[]⟩ : ByteArray), .string (⟨#[]⟩ : ByteArray)] 87 (0, 0)) (kz_ BK337.out) hb); have n1_ := Aside0.mk (blk_below (g := gb347) (o := .cells #[.string (⟨#[]⟩ : ByteArray), .int .i64 x348001_1, .string t344, .string (⟨#[]⟩ : ByteArray)] 87 (0, 0)) (kz_ BK347.out) hb); have n2_ := Aside0.mk (below_step (bs2_ GE337.out GE347.out) hb); clear BK337; clear BK347; clear HB; have BK337 := n0_; have BK347 := n1_; have HB := n2_; clear n0_ n1_ n2_; (try clear hb); (try clear hb2); (try clear hk); (try clear hi)))
      go_roundg k1
      case measure => have := HK1.out; omega
      case rel => exact ⟨(wrap64 (x12_1 + 1)), (x348001_1), ez_, H', ⟨by have := HK1.out; omega⟩, ⟨kz_ BK337.out⟩, ⟨kz_ BK347.out⟩, ⟨bs2_ GE337.out GE347.out⟩⟩
   ·
    rw [if_neg c9] at H
    have c9b0 : decide (x12_1 < 5) = false := decide_eq_false c9
    clear c9
    replace H := Option.bind_eq_some_iff.mp H
    obtain ⟨⟨t349, t350⟩, A160, H⟩ := H
    try dsimp only at H
    have A16 := Aside0.mk A160
    clear A160
    have HC17 := Aside0.mk H
    clear H
    go_upto_region 11 with (first | ((with_reducible refine gate_callee (f := 25) rfl ?_); refine goesM_ (some 46) Tryd.func25 #[.string t338] ?_; (with_reducible refine (r7_id.calls k1 t338 t349 t350 _ A16.out).mono ?_); rintro e w18 ⟨rfl, hb⟩; refine ⟨_, rfl, ?_⟩; have n0_ := Aside0.mk (blk_below (g := gb337) (o := .cells #[.string (⟨#[]⟩ : ByteArray), .int .i64 0, .string (⟨#[]⟩ : ByteArray), .string (⟨#[]⟩ : ByteArray)] 87 (0, 0)) (kz_ BK337.out) hb); have n1_ := Aside0.mk (blk_below (g := gb347) (o := .cells #[.string (⟨#[]⟩ : ByteArray), .int .i64 x348001_1, .string t344, .string (⟨#[]⟩ : ByteArray)] 87 (0, 0)) (kz_ BK347.out) hb); have n2_ := Aside0.mk (below_step (bs2_ GE337.out GE347.out) hb); clear BK337; clear BK347; clear HB; have BK337 := n0_; have BK347 := n1_; have HB := n2_; clear n0_ n1_ n2_; (try clear hb); (try clear hb2); (try clear hk); (try clear hi); have hnb19 := NB347_337.out; have hnc19 := NB337_347.out; have hcz20_0 : w18.cell? ⟨gb347, 0, none⟩ = some (.string (⟨#[]⟩ : ByteArray)) := (blk_cell BK347.out 0).trans rfl; have hcz20_1 : w18.cell? ⟨gb347, 1, none⟩ = some (.int .i64 x348001_1) := (blk_cell BK347.out 1).trans rfl; have hcz20_2 : w18.cell? ⟨gb347, 2, none⟩ = some (.string t344) := (blk_cell BK347.out 2).trans rfl; have hcz20_3 : w18.cell? ⟨gb347, 3, none⟩ = some (.string (⟨#[]⟩ : ByteArray)) := (blk_cell BK347.out 3).trans rfl; have hfz20_0 := blk_frozen BK347.out 0; have hfz20_1 := blk_frozen BK347.out 1; have hfz20_2 := blk_frozen BK347.out 2; have hfz20_3 := blk_frozen BK347.out 3))
    (try simp only [Act.put, List.setIfInBounds_toArray, List.set_cons_zero, List.set_cons_succ])
    go_cut [80] (fun v80 wc => ∃ (kq : Nat) (x80_16 : Bool), v80 = .bool x80_16 ∧ Aside0 (r7_GetTag.j1 kq t345 x80_16 t349 x348001_1 t344 (⟨#[]⟩ : ByteArray) = some (r1, r2, r3, r4, r5)) ∧ Aside0 (kq ≤ k1) ∧ Aside0 (wc.heap[gb337]? = some (.cells #[.string (⟨#[]⟩ : ByteArray), .int .i64 0, .string (⟨#[]⟩ : ByteArray), .string (⟨#[]⟩ : ByteArray)] 87 (0, 0))) ∧ Aside0 (wc.heap[gb347]? = some (.cells #[.string t349, .int .i64 x348001_1, .string t344, .string (⟨#[]⟩ : ByteArray)] 87 (0, 0))) ∧ Aside0 (Below w.heap.size w wc))
    case first =>
     have H := HC17.out
     clear HC17
     by_cases c21 : t340 = true
     ·
      subst c21
      have H1 := H
      rw [if_pos rfl] at H1
      clear H
      have H := H1
      clear H1
      by_cases c22 : t343 = true
      ·
       subst c22
       have H1 := H
       rw [if_pos rfl] at H1
       clear H
       have H := H1
       clear H1
       by_cases c23 : t346 = true
       ·
        subst c23
        have H1 := H
        rw [if_pos rfl] at H1
        clear H
        have H := H1
        clear H1
        by_cases c24 : (t345.size : Int) = 0
        · rw [if_pos c24] at H
          have c24b0 : ((t345.size : Int) == 0) = true := beq_iff_eq.mpr c24
          have c24b1 : ((t345.size : Int) != 0) = false := bne_eq_false_iff_eq.mpr c24
          clear c24
          (first | rw [c24b0] | (simp only [i64_w, i32_w]; rw [c24b0]) | skip)
          have H' := Aside0.mk H
          clear H
          go_wp2
          go_meet
          case rel => exact ⟨_, (true), ez_, H', ⟨by have := HK1.out; first | omega | exact Nat.le_refl _⟩, ⟨by (with_reducible repeat (first | refine blk_drewN ?_ _ | refine blk_drew ?_ | refine blk_alloc ?_ _)); refine blk_far ?_ NB337_347.out _; (with_reducible repeat (first | refine blk_drewN ?_ _ | refine blk_drew ?_ | refine blk_alloc ?_ _)); exact BK337.out⟩, ⟨by (with_reducible repeat (first | refine blk_drewN ?_ _ | refine blk_drew ?_ | refine blk_alloc ?_ _)); refine blk_put (cs := #[.string (⟨#[]⟩ : ByteArray), .int .i64 x348001_1, .string t344, .string (⟨#[]⟩ : ByteArray)]) ?_ 0 _ rfl; (with_reducible repeat (first | refine blk_drewN ?_ _ | refine blk_drew ?_ | refine blk_alloc ?_ _)); exact BK347.out⟩, ⟨bs2_ GE337.out GE347.out⟩⟩
        ·
         rw [if_neg c24] at H
         have c24b0 : ((t345.size : Int) == 0) = false := beq_eq_false_iff_ne.mpr c24
         have c24b1 : ((t345.size : Int) != 0) = true := bne_iff_ne.mpr c24
         (first | rw [c24b0] | (simp only [i64_w, i32_w]; rw [c24b0]) | skip)
         by_cases c25 : 0 < (t345.size : Int)
         ·
          rw [if_pos c25] at H
          have c25b0 : decide (0 < (t345.size : Int)) = true := decide_eq_true c25
          have c25b1 : decide (0 < t345.size) = true := decide_eq_true (by omega)
          clear c25
          by_cases c27 : (bt t345 0) = 10
          ·
           rw [if_pos c27] at H
           have c27b0 : ((bt t345 0) == 10) = true := beq_iff_eq.mpr c27
           have c27b1 : ((bt t345 0) != 10) = false := bne_eq_false_iff_eq.mpr c27
           clear c27
           by_cases c28 : x348001_1 = 0
           ·
            rw [if_pos c28] at H
            have c28b0 : (x348001_1 == 0) = true := beq_iff_eq.mpr c28
            have c28b1 : (x348001_1 != 0) = false := bne_eq_false_iff_eq.mpr c28
            clear c28
            have H' := Aside0.mk H
            clear H
            have p26 : 0 ≤ (0 : Int) := (by omega)
            have q26 : 0 < t345.size := (by have : (0 : Int) < (t345.size : Int) := of_decide_eq_true az_; omega)
            have hx26 : ∀ h : 0 < t345.size, ((t345[0]'h).toNat : Int) = bt t345 0 := bt_at t345 0
            clear p26
            have qi26 : (0 < (t345.size : Int)) = True := eq_true (of_decide_eq_true az_)
            replace q26 := eq_true q26
            have hnb29 := NB347_337.out
            have hnc29 := NB337_347.out
            have hcz30_0 : w18.cell? ⟨gb347, 0, none⟩ = some (.string (⟨#[]⟩ : ByteArray)) := (blk_cell BK347.out 0).trans rfl
            have hcz30_1 : w18.cell? ⟨gb347, 1, none⟩ = some (.int .i64 x348001_1) := (blk_cell BK347.out 1).trans rfl
            have hcz30_2 : w18.cell? ⟨gb347, 2, none⟩ = some (.string t344) := (blk_cell BK347.out 2).trans rfl
            have hcz30_3 : w18.cell? ⟨gb347, 3, none⟩ = some (.string (⟨#[]⟩ : ByteArray)) := (blk_cell BK347.out 3).trans rfl
            have hfz30_0 := blk_frozen BK347.out 0
            have hfz30_1 := blk_frozen BK347.out 1
            have hfz30_2 := blk_frozen BK347.out 2
            have hfz30_3 := blk_frozen BK347.out 3
            go_wp2
            go_meet
            case rel => exact ⟨_, (true), ez_, H', ⟨by have := HK1.out; first | omega | exact Nat.le_refl _⟩, ⟨by (with_reducible repeat (first | refine blk_drewN ?_ _ | refine blk_drew ?_ | refine blk_alloc ?_ _)); refine blk_far ?_ NB337_347.out _; (with_reducible repeat (first | refine blk_drewN ?_ _ | refine blk_drew ?_ | refine blk_alloc ?_ _)); exact BK337.out⟩, ⟨by (with_reducible repeat (first | refine blk_drewN ?_ _ | refine blk_drew ?_ | refine blk_alloc ?_ _)); refine blk_put (cs := #[.string (⟨#[]⟩ : ByteArray), .int .i64 x348001_1, .string t344, .string (⟨#[]⟩ : ByteArray)]) ?_ 0 _ rfl; (with_reducible repeat (first | refine blk_drewN ?_ _ | refine blk_drew ?_ | refine blk_alloc ?_ _)); exact BK347.out⟩, ⟨bs2_ GE337.out GE347.out⟩⟩
           ·
            rw [if_neg c28] at H
            have c28b0 : (x348001_1 == 0) = false := beq_eq_false_iff_ne.mpr c28
            have c28b1 : (x348001_1 != 0) = true := bne_iff_ne.mpr c28
            have H' := Aside0.mk H
            clear H
            have p26 : 0 ≤ (0 : Int) := (by omega)
            have q26 : 0 < t345.size := (by have : (0 : Int) < (t345.size : Int) := of_decide_eq_true az_; omega)
            have hx26 : ∀ h : 0 < t345.size, ((t345[0]'h).toNat : Int) = bt t345 0 := bt_at t345 0
            clear p26
            have qi26 : (0 < (t345.size : Int)) = True := eq_true (of_decide_eq_true az_)
            replace q26 := eq_true q26
            have hnb31 := NB347_337.out
            have hnc31 := NB337_347.out
            have hcz32_0 : w18.cell? ⟨gb347, 0, none⟩ = some (.string (⟨#[]⟩ : ByteArray)) := (blk_cell BK347.out 0).trans rfl
            have hcz32_1 : w18.cell? ⟨gb347, 1, none⟩ = some (.int .i64 x348001_1) := (blk_cell BK347.out 1).trans rfl
            have hcz32_2 : w18.cell? ⟨gb347, 2, none⟩ = some (.string t344) := (blk_cell BK347.out 2).trans rfl
            have hcz32_3 : w18.cell? ⟨gb347, 3, none⟩ = some (.string (⟨#[]⟩ : ByteArray)) := (blk_cell BK347.out 3).trans rfl
            have hfz32_0 := blk_frozen BK347.out 0
            have hfz32_1 := blk_frozen BK347.out 1
            have hfz32_2 := blk_frozen BK347.out 2
            have hfz32_3 := blk_frozen BK347.out 3
            go_wp2
            go_meet
            case rel => exact ⟨_, (((t349.size : Int) != 32)), ez_, H', ⟨by have := HK1.out; first | omega | exact Nat.le_refl _⟩, ⟨by (with_reducible repeat (first | refine blk_drewN ?_ _ | refine blk_drew ?_ | refine blk_alloc ?_ _)); refine blk_far ?_ NB337_347.out _; (with_reducible repeat (first | refine blk_drewN ?_ _ | refine blk_drew ?_ | refine blk_alloc ?_ _)); exact BK337.out⟩, ⟨by (with_reducible repeat (first | refine blk_drewN ?_ _ | refine blk_drew ?_ | refine blk_alloc ?_ _)); refine blk_put (cs := #[.string (⟨#[]⟩ : ByteArray), .int .i64 x348001_1, .string t344, .string (⟨#[]⟩ : ByteArray)]) ?_ 0 _ rfl; (with_reducible repeat (first | refine blk_drewN ?_ _ | refine blk_drew ?_ | refine blk_alloc ?_ _)); exact BK347.out⟩, ⟨bs2_ GE337.out GE347.out⟩⟩
          ·
           rw [if_neg c27] at H
           have c27b0 : ((bt t345 0) == 10) = false := beq_eq_false_iff_ne.mpr c27
           have c27b1 : ((bt t345 0) != 10) = true := bne_iff_ne.mpr c27
           have H' := Aside0.mk H
           clear H
           have p26 : 0 ≤ (0 : Int) := (by omega)
           have q26 : 0 < t345.size := (by have : (0 : Int) < (t345.size : Int) := of_decide_eq_true az_; omega)
           have hx26 : ∀ h : 0 < t345.size, ((t345[0]'h).toNat : Int) = bt t345 0 := bt_at t345 0
           clear p26
           have qi26 : (0 < (t345.size : Int)) = True := eq_true (of_decide_eq_true az_)
           replace q26 := eq_true q26
           go_wp2
           go_meet
           case rel => exact ⟨_, (true), ez_, H', ⟨by have := HK1.out; first | omega | exact Nat.le_refl _⟩, ⟨by (with_reducible repeat (first | refine blk_drewN ?_ _ | refine blk_drew ?_ | refine blk_alloc ?_ _)); refine blk_far ?_ NB337_347.out _; (with_reducible repeat (first | refine blk_drewN ?_ _ | refine blk_drew ?_ | refine blk_alloc ?_ _)); exact BK337.out⟩, ⟨by (with_reducible repeat (first | refine blk_drewN ?_ _ | refine blk_drew ?_ | refine blk_alloc ?_ _)); refine blk_put (cs := #[.string (⟨#[]⟩ : ByteArray), .int .i64 x348001_1, .string t344, .string (⟨#[]⟩ : ByteArray)]) ?_ 0 _ rfl; (with_reducible repeat (first | refine blk_drewN ?_ _ | refine blk_drew ?_ | refine blk_alloc ?_ _)); exact BK347.out⟩, ⟨bs2_ GE337.out GE347.out⟩⟩
         · rw [if_neg c25] at H
           exact absurd H (by simp)
       · replace c23 := Bool.eq_false_iff.mpr c23
         subst c23
         have H1 := H
         rw [if_neg (show ¬ (false = true) by decide)] at H1
         clear H
         have H := H1
         clear H1
         have H' := Aside0.mk H
         clear H
         go_wp2
         go_meet
         case rel => exact ⟨_, (true), ez_, H', ⟨by have := HK1.out; first | omega | exact Nat.le_refl _⟩, ⟨by (with_reducible repeat (first | refine blk_drewN ?_ _ | refine blk_drew ?_ | refine blk_alloc ?_ _)); refine blk_far ?_ NB337_347.out _; (with_reducible repeat (first | refine blk_drewN ?_ _ | refine blk_drew ?_ | refine blk_alloc ?_ _)); exact BK337.out⟩, ⟨by (with_reducible repeat (first | refine blk_drewN ?_ _ | refine blk_drew ?_ | refine blk_alloc ?_ _)); refine blk_put (cs := #[.string (⟨#[]⟩ : ByteArray), .int .i64 x348001_1, .string t344, .string (⟨#[]⟩ : ByteArray)]) ?_ 0 _ rfl; (with_reducible repeat (first | refine blk_drewN ?_ _ | refine blk_drew ?_ | refine blk_alloc ?_ _)); exact BK347.out⟩, ⟨bs2_ GE337.out GE347.out⟩⟩
      · replace c22 := Bool.eq_false_iff.mpr c22
        subst c22
        have H1 := H
        rw [if_neg (show ¬ (false = true) by decide)] at H1
        clear H
        have H := H1
        clear H1
        have H' := Aside0.mk H
        clear H
        go_wp2
        go_meet
        case rel => exact ⟨_, (true), ez_, H', ⟨by have := HK1.out; first | omega | exact Nat.le_refl _⟩, ⟨by (with_reducible repeat (first | refine blk_drewN ?_ _ | refine blk_drew ?_ | refine blk_alloc ?_ _)); refine blk_far ?_ NB337_347.out _; (with_reducible repeat (first | refine blk_drewN ?_ _ | refine blk_drew ?_ | refine blk_alloc ?_ _)); exact BK337.out⟩, ⟨by (with_reducible repeat (first | refine blk_drewN ?_ _ | refine blk_drew ?_ | refine blk_alloc ?_ _)); refine blk_put (cs := #[.string (⟨#[]⟩ : ByteArray), .int .i64 x348001_1, .string t344, .string (⟨#[]⟩ : ByteArray)]) ?_ 0 _ rfl; (with_reducible repeat (first | refine blk_drewN ?_ _ | refine blk_drew ?_ | refine blk_alloc ?_ _)); exact BK347.out⟩, ⟨bs2_ GE337.out GE347.out⟩⟩
     · replace c21 := Bool.eq_false_iff.mpr c21
       subst c21
       have H1 := H
       rw [if_neg (show ¬ (false = true) by decide)] at H1
       clear H
       have H := H1
       clear H1
       have H' := Aside0.mk H
       clear H
       go_wp2
       go_meet
       case rel => exact ⟨_, (true), ez_, H', ⟨by have := HK1.out; first | omega | exact Nat.le_refl _⟩, ⟨by (with_reducible repeat (first | refine blk_drewN ?_ _ | refine blk_drew ?_ | refine blk_alloc ?_ _)); refine blk_far ?_ NB337_347.out _; (with_reducible repeat (first | refine blk_drewN ?_ _ | refine blk_drew ?_ | refine blk_alloc ?_ _)); exact BK337.out⟩, ⟨by (with_reducible repeat (first | refine blk_drewN ?_ _ | refine blk_drew ?_ | refine blk_alloc ?_ _)); refine blk_put (cs := #[.string (⟨#[]⟩ : ByteArray), .int .i64 x348001_1, .string t344, .string (⟨#[]⟩ : ByteArray)]) ?_ 0 _ rfl; (with_reducible repeat (first | refine blk_drewN ?_ _ | refine blk_drew ?_ | refine blk_alloc ?_ _)); exact BK347.out⟩, ⟨bs2_ GE337.out GE347.out⟩⟩
    case rest =>
     clear HC17
     try clear c1
     try clear c2
     try clear p2
     try clear q2
     try clear hx2
     try clear qi2
     try clear c3
     try clear c4
     try clear p6
     try clear c7
     try clear c9
     try clear c9b0
     try clear c11
     try clear c11b0
     try clear c11b1
     try clear c13
     try clear c19
     try clear c21
     try clear c22
     try clear c23
     try clear c24
     try clear c24b0
     try clear c24b1
     try clear c25
     try clear c25b0
     try clear c25b1
     try clear p26
     try clear q26
     try clear hx26
     try clear qi26
     try clear c27
     try clear c27b0
     try clear c27b1
     try clear c28
     try clear c28b0
     try clear c28b1
     try clear c29
     try clear c31
     try clear hcz14_0
     try clear hcz14_1
     try clear hcz14_2
     try clear hcz14_3
     try clear hcz20_0
     try clear hcz20_1
     try clear hcz20_2
     try clear hcz20_3
     try clear hcz30_0
     try clear hcz30_1
     try clear hcz30_2
     try clear hcz30_3
     try clear hcz32_0
     try clear hcz32_1
     try clear hcz32_2
     try clear hcz32_3
     try clear hcz8_0
     try clear hcz8_1
     try clear hcz8_2
     try clear hcz8_3
     try clear hfz14_0
     try clear hfz14_1
     try clear hfz14_2
     try clear hfz14_3
     try clear hfz20_0
     try clear hfz20_1
     try clear hfz20_2
     try clear hfz20_3
     try clear hfz30_0
     try clear hfz30_1
     try clear hfz30_2
     try clear hfz30_3
     try clear hfz32_0
     try clear hfz32_1
     try clear hfz32_2
     try clear hfz32_3
     try clear hfz8_0
     try clear hfz8_1
     try clear hfz8_2
     try clear hfz8_3
     try clear p2
     try clear p26
     try clear q26
     obtain ⟨kq, x80_16, rfl, HA, HJ16, BK337, BK347, HB⟩ := hcut
     cases kq with
     | zero => exact absurd HA.out (by simp [r7_GetTag.j1])
     | succ kj16 =>
      have H := HA.out
      clear HA
      simp only [r7_GetTag.j1] at H
      by_cases c33 : x80_16 = true
      ·
       subst c33
       have H1 := H
       rw [if_pos rfl] at H1
       clear H
       have H := H1
       clear H1
       simp only [Option.some.injEq, Prod.mk.injEq] at H
       obtain ⟨rfl, rfl, rfl, rfl, rfl⟩ := H
       have hnb34 := NB337_347.out
       have hnc34 := NB347_337.out
       have hcz35_0 : wc.cell? ⟨gb337, 0, none⟩ = some (.string (⟨#[]⟩ : ByteArray)) := (blk_cell BK337.out 0).trans rfl
       have hcz35_1 : wc.cell? ⟨gb337, 1, none⟩ = some (.int .i64 0) := (blk_cell BK337.out 1).trans rfl
       have hcz35_2 : wc.cell? ⟨gb337, 2, none⟩ = some (.string (⟨#[]⟩ : ByteArray)) := (blk_cell BK337.out 2).trans rfl
       have hcz35_3 : wc.cell? ⟨gb337, 3, none⟩ = some (.string (⟨#[]⟩ : ByteArray)) := (blk_cell BK337.out 3).trans rfl
       have hfz35_0 := blk_frozen BK337.out 0
       have hfz35_1 := blk_frozen BK337.out 1
       have hfz35_2 := blk_frozen BK337.out 2
       have hfz35_3 := blk_frozen BK337.out 3
       go_wp2
       refine bodyPost_ret (results_ct rfl _ _ gb337 87 #[.string (⟨#[]⟩ : ByteArray), .int .i64 0, .string (⟨#[]⟩ : ByteArray), .string (⟨#[]⟩ : ByteArray)] (0, 0) _ rfl (by (with_reducible repeat (first | refine blk_drewN ?_ _ | refine blk_drew ?_ | refine blk_alloc ?_ _)); refine blk_put (cs := #[.string (⟨#[]⟩ : ByteArray), .int .i64 0, .string (⟨#[]⟩ : ByteArray), .string (⟨#[]⟩ : ByteArray)]) ?_ 3 _ rfl; (with_reducible repeat (first | refine blk_drewN ?_ _ | refine blk_drew ?_ | refine blk_alloc ?_ _)); refine blk_put (cs := #[.string (⟨#[]⟩ : ByteArray), .int .i64 0, .string (⟨#[]⟩ : ByteArray), .string (⟨#[]⟩ : ByteArray)]) ?_ 2 _ rfl; (with_reducible repeat (first | refine blk_drewN ?_ _ | refine blk_drew ?_ | refine blk_alloc ?_ _)); refine blk_put (cs := #[.string (⟨#[]⟩ : ByteArray), .int .i64 0, .string (⟨#[]⟩ : ByteArray), .string (⟨#[]⟩ : ByteArray)]) ?_ 1 _ rfl; (with_reducible repeat (first | refine blk_drewN ?_ _ | refine blk_drew ?_ | refine blk_alloc ?_ _)); refine blk_put (cs := #[.string (⟨#[]⟩ : ByteArray), .int .i64 0, .string (⟨#[]⟩ : ByteArray), .string (⟨#[]⟩ : ByteArray)]) ?_ 0 _ rfl; (with_reducible repeat (first | refine blk_drewN ?_ _ | refine blk_drew ?_ | refine blk_alloc ?_ _)); exact BK337.out) Tryd.underlying87 rfl (by kernel_rfl)) rfl ?_
       exact ⟨xz_, bs2_ GE337.out GE347.out⟩
      ·
       replace c33 := Bool.eq_false_iff.mpr c33
       subst c33
       have H1 := H
       rw [if_neg (show ¬ (false = true) by decide)] at H1
       clear H
       have H := H1
       clear H1
       by_cases c36 : 1 ≤ (t345.size : Int)
       ·
        rw [if_pos c36] at H
        have c36b0 := eq_true c36
        have c36b1 : decide (1 ≤ (t345.size : Int)) = true := decide_eq_true c36
        clear c36
        replace H := Option.bind_eq_some_iff.mp H
        obtain ⟨t351, A370, H⟩ := H
        try dsimp only at H
        have A37 := Aside0.mk A370
        clear A370
        by_cases c38 : t351 = 0
        ·
         rw [if_pos c38] at H
         have c38b0 : (t351 == 0) = true := beq_iff_eq.mpr c38
         have c38b1 : (t351 != 0) = false := bne_eq_false_iff_eq.mpr c38
         clear c38
         simp only [Option.some.injEq, Prod.mk.injEq] at H
         obtain ⟨rfl, rfl, rfl, rfl, rfl⟩ := H
         have hnb39 := NB347_337.out
         have hnc39 := NB337_347.out
         have hcz40_0 : wc.cell? ⟨gb347, 0, none⟩ = some (.string t349) := (blk_cell BK347.out 0).trans rfl
         have hcz40_1 : wc.cell? ⟨gb347, 1, none⟩ = some (.int .i64 x348001_1) := (blk_cell BK347.out 1).trans rfl
         have hcz40_2 : wc.cell? ⟨gb347, 2, none⟩ = some (.string t344) := (blk_cell BK347.out 2).trans rfl
         have hcz40_3 : wc.cell? ⟨gb347, 3, none⟩ = some (.string (⟨#[]⟩ : ByteArray)) := (blk_cell BK347.out 3).trans rfl
         have hfz40_0 := blk_frozen BK347.out 0
         have hfz40_1 := blk_frozen BK347.out 1
         have hfz40_2 := blk_frozen BK347.out 2
         have hfz40_3 := blk_frozen BK347.out 3
         go_wp2_with (first | ((with_reducible refine gate_callee (f := 69) rfl ?_); refine goesM_ (some 86) Tryd.func69 #[.agg #[.string t349, .int .i64 x348001_1, .string t344, .string (t345.extract 1 t345.size)]] ?_; (with_reducible refine (r7_CheckTag.calls kj16 t349 x348001_1 t344 (t345.extract 1 t345.size) t351 _ A37.out).mono ?_); rintro e w41 ⟨rfl, hb⟩; refine ⟨_, rfl, ?_⟩; have n0_ := Aside0.mk (blk_below (g := gb337) (o := .cells #[.string (⟨#[]⟩ : ByteArray), .int .i64 0, .string (⟨#[]⟩ : ByteArray), .string (⟨#[]⟩ : ByteArray)] 87 (0, 0)) (by (with_reducible repeat (first | refine blk_drewN ?_ _ | refine blk_drew ?_ | refine blk_alloc ?_ _)); refine blk_far ?_ NB337_347.out _; (with_reducible repeat (first | refine blk_drewN ?_ _ | refine blk_drew ?_ | refine blk_alloc ?_ _)); exact BK337.out) hb); have n1_ := Aside0.mk (blk_below (g := gb347) (o := .cells #[.string t349, .int .i64 x348001_1, .string t344, .string (t345.extract 1 t345.size)] 87 (0, 0)) (by (with_reducible repeat (first | refine blk_drewN ?_ _ | refine blk_drew ?_ | refine blk_alloc ?_ _)); refine blk_put (cs := #[.string t349, .int .i64 x348001_1, .string t344, .string (⟨#[]⟩ : ByteArray)]) ?_ 3 _ rfl; (with_reducible repeat (first | refine blk_drewN ?_ _ | refine blk_drew ?_ | refine blk_alloc ?_ _)); exact BK347.out) hb); have n2_ := Aside0.mk (below_step (bs2_ GE337.out GE347.out) hb); clear BK337; clear BK347; clear HB; have BK337 := n0_; have BK347 := n1_; have HB := n2_; clear n0_ n1_ n2_; (try clear hb); (try clear hb2); (try clear hk); (try clear hi); have hcz42_0 : w41.cell? ⟨gb347, 0, none⟩ = some (.string t349) := (blk_cell BK347.out 0).trans rfl; have hcz42_1 : w41.cell? ⟨gb347, 1, none⟩ = some (.int .i64 x348001_1) := (blk_cell BK347.out 1).trans rfl; have hcz42_2 : w41.cell? ⟨gb347, 2, none⟩ = some (.string t344) := (blk_cell BK347.out 2).trans rfl; have hcz42_3 : w41.cell? ⟨gb347, 3, none⟩ = some (.string (t345.extract 1 t345.size)) := (blk_cell BK347.out 3).trans rfl; have hfz42_0 := blk_frozen BK347.out 0; have hfz42_1 := blk_frozen BK347.out 1; have hfz42_2 := blk_frozen BK347.out 2; have hfz42_3 := blk_frozen BK347.out 3; have hcz43_0 : w41.cell? ⟨gb337, 0, none⟩ = some (.string (⟨#[]⟩ : ByteArray)) := (blk_cell BK337.out 0).trans rfl; have hcz43_1 : w41.cell? ⟨gb337, 1, none⟩ = some (.int .i64 0) := (blk_cell BK337.out 1).trans rfl; have hcz43_2 : w41.cell? ⟨gb337, 2, none⟩ = some (.string (⟨#[]⟩ : ByteArray)) := (blk_cell BK337.out 2).trans rfl; have hcz43_3 : w41.cell? ⟨gb337, 3, none⟩ = some (.string (⟨#[]⟩ : ByteArray)) := (blk_cell BK337.out 3).trans rfl; have hfz43_0 := blk_frozen BK337.out 0; have hfz43_1 := blk_frozen BK337.out 1; have hfz43_2 := blk_frozen BK337.out 2; have hfz43_3 := blk_frozen BK337.out 3))
         refine bodyPost_ret (results_ct rfl _ _ gb337 87 #[.string t349, .int .i64 x348001_1, .string t344, .string (t345.extract 1 t345.size)] (0, 0) _ rfl (by (with_reducible repeat (first | refine blk_drewN ?_ _ | refine blk_drew ?_ | refine blk_alloc ?_ _)); refine blk_put (cs := #[.string t349, .int .i64 x348001_1, .string t344, .string (⟨#[]⟩ : ByteArray)]) ?_ 3 _ rfl; (with_reducible repeat (first | refine blk_drewN ?_ _ | refine blk_drew ?_ | refine blk_alloc ?_ _)); refine blk_put (cs := #[.string t349, .int .i64 x348001_1, .string (⟨#[]⟩ : ByteArray), .string (⟨#[]⟩ : ByteArray)]) ?_ 2 _ rfl; (with_reducible repeat (first | refine blk_drewN ?_ _ | refine blk_drew ?_ | refine blk_alloc ?_ _)); refine blk_put (cs := #[.string t349, .int .i64 0, .string (⟨#[]⟩ : ByteArray), .string (⟨#[]⟩ : ByteArray)]) ?_ 1 _ rfl; (with_reducible repeat (first | refine blk_drewN ?_ _ | refine blk_drew ?_ | refine blk_alloc ?_ _)); refine blk_put (cs := #[.string (⟨#[]⟩ : ByteArray), .int .i64 0, .string (⟨#[]⟩ : ByteArray), .string (⟨#[]⟩ : ByteArray)]) ?_ 0 _ rfl; (with_reducible repeat (first | refine blk_drewN ?_ _ | refine blk_drew ?_ | refine blk_alloc ?_ _)); exact BK337.out) Tryd.underlying87 rfl (by kernel_rfl)) rfl ?_
         exact ⟨xz_, bs2_ GE337.out GE347.out⟩
        ·
         rw [if_neg c38] at H
         have c38b0 : (t351 == 0) = false := beq_eq_false_iff_ne.mpr c38
         have c38b1 : (t351 != 0) = true := bne_iff_ne.mpr c38
         simp only [Option.some.injEq, Prod.mk.injEq] at H
         obtain ⟨rfl, rfl, rfl, rfl, rfl⟩ := H
         have hnb44 := NB347_337.out
         have hnc44 := NB337_347.out
         have hcz45_0 : wc.cell? ⟨gb347, 0, none⟩ = some (.string t349) := (blk_cell BK347.out 0).trans rfl
         have hcz45_1 : wc.cell? ⟨gb347, 1, none⟩ = some (.int .i64 x348001_1) := (blk_cell BK347.out 1).trans rfl
         have hcz45_2 : wc.cell? ⟨gb347, 2, none⟩ = some (.string t344) := (blk_cell BK347.out 2).trans rfl
         have hcz45_3 : wc.cell? ⟨gb347, 3, none⟩ = some (.string (⟨#[]⟩ : ByteArray)) := (blk_cell BK347.out 3).trans rfl
         have hfz45_0 := blk_frozen BK347.out 0
         have hfz45_1 := blk_frozen BK347.out 1
         have hfz45_2 := blk_frozen BK347.out 2
         have hfz45_3 := blk_frozen BK347.out 3
         go_wp2_with (first | ((with_reducible refine gate_callee (f := 69) rfl ?_); refine goesM_ (some 86) Tryd.func69 #[.agg #[.string t349, .int .i64 x348001_1, .string t344, .string (t345.extract 1 t345.size)]] ?_; (with_reducible refine (r7_CheckTag.calls kj16 t349 x348001_1 t344 (t345.extract 1 t345.size) t351 _ A37.out).mono ?_); rintro e w46 ⟨rfl, hb⟩; refine ⟨_, rfl, ?_⟩; have n0_ := Aside0.mk (blk_below (g := gb337) (o := .cells #[.string (⟨#[]⟩ : ByteArray), .int .i64 0, .string (⟨#[]⟩ : ByteArray), .string (⟨#[]⟩ : ByteArray)] 87 (0, 0)) (by (with_reducible repeat (first | refine blk_drewN ?_ _ | refine blk_drew ?_ | refine blk_alloc ?_ _)); refine blk_far ?_ NB337_347.out _; (with_reducible repeat (first | refine blk_drewN ?_ _ | refine blk_drew ?_ | refine blk_alloc ?_ _)); exact BK337.out) hb); have n1_ := Aside0.mk (blk_below (g := gb347) (o := .cells #[.string t349, .int .i64 x348001_1, .string t344, .string (t345.extract 1 t345.size)] 87 (0, 0)) (by (with_reducible repeat (first | refine blk_drewN ?_ _ | refine blk_drew ?_ | refine blk_alloc ?_ _)); refine blk_put (cs := #[.string t349, .int .i64 x348001_1, .string t344, .string (⟨#[]⟩ : ByteArray)]) ?_ 3 _ rfl; (with_reducible repeat (first | refine blk_drewN ?_ _ | refine blk_drew ?_ | refine blk_alloc ?_ _)); exact BK347.out) hb); have n2_ := Aside0.mk (below_step (bs2_ GE337.out GE347.out) hb); clear BK337; clear BK347; clear HB; have BK337 := n0_; have BK347 := n1_; have HB := n2_; clear n0_ n1_ n2_; (try clear hb); (try clear hb2); (try clear hk); (try clear hi); have hcz47_0 : w46.cell? ⟨gb337, 0, none⟩ = some (.string (⟨#[]⟩ : ByteArray)) := (blk_cell BK337.out 0).trans rfl; have hcz47_1 : w46.cell? ⟨gb337, 1, none⟩ = some (.int .i64 0) := (blk_cell BK337.out 1).trans rfl; have hcz47_2 : w46.cell? ⟨gb337, 2, none⟩ = some (.string (⟨#[]⟩ : ByteArray)) := (blk_cell BK337.out 2).trans rfl; have hcz47_3 : w46.cell? ⟨gb337, 3, none⟩ = some (.string (⟨#[]⟩ : ByteArray)) := (blk_cell BK337.out 3).trans rfl; have hfz47_0 := blk_frozen BK337.out 0; have hfz47_1 := blk_frozen BK337.out 1; have hfz47_2 := blk_frozen BK337.out 2; have hfz47_3 := blk_frozen BK337.out 3))
         refine bodyPost_ret (results_ct rfl _ _ gb337 87 #[.string (⟨#[]⟩ : ByteArray), .int .i64 0, .string (⟨#[]⟩ : ByteArray), .string (⟨#[]⟩ : ByteArray)] (0, 0) _ rfl (by (with_reducible repeat (first | refine blk_drewN ?_ _ | refine blk_drew ?_ | refine blk_alloc ?_ _)); refine blk_put (cs := #[.string (⟨#[]⟩ : ByteArray), .int .i64 0, .string (⟨#[]⟩ : ByteArray), .string (⟨#[]⟩ : ByteArray)]) ?_ 3 _ rfl; (with_reducible repeat (first | refine blk_drewN ?_ _ | refine blk_drew ?_ | refine blk_alloc ?_ _)); refine blk_put (cs := #[.string (⟨#[]⟩ : ByteArray), .int .i64 0, .string (⟨#[]⟩ : ByteArray), .string (⟨#[]⟩ : ByteArray)]) ?_ 2 _ rfl; (with_reducible repeat (first | refine blk_drewN ?_ _ | refine blk_drew ?_ | refine blk_alloc ?_ _)); refine blk_put (cs := #[.string (⟨#[]⟩ : ByteArray), .int .i64 0, .string (⟨#[]⟩ : ByteArray), .string (⟨#[]⟩ : ByteArray)]) ?_ 1 _ rfl; (with_reducible repeat (first | refine blk_drewN ?_ _ | refine blk_drew ?_ | refine blk_alloc ?_ _)); refine blk_put (cs := #[.string (⟨#[]⟩ : ByteArray), .int .i64 0, .string (⟨#[]⟩ : ByteArray), .string (⟨#[]⟩ : ByteArray)]) ?_ 0 _ rfl; (with_reducible repeat (first | refine blk_drewN ?_ _ | refine blk_drew ?_ | refine blk_alloc ?_ _)); exact BK337.out) Tryd.underlying87 rfl (by kernel_rfl)) rfl ?_
         exact ⟨xz_, bs2_ GE337.out GE347.out⟩
       · rw [if_neg c36] at H
         exact absurd H (by simp)

end Go.Proofs.YtnapcfpecpgdbaaDoor.M
