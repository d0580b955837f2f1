/- The program's functions as plain functions, and that each call comes to what these tell; written by a program of this session, some contracts by hand. Conditions: none. -/
import Derived.Test.YtnapcfpecpgdbaaDoorMx0
import Derived.Test.YtnapcfpecpgdbaaDoorMx5
import Derived.Test.YtnapcfpecpgdbaaDoorMx18
import Derived.Test.YtnapcfpecpgdbaaDoorMx19
import Derived.Test.YtnapcfpecpgdbaaDoorMx20
namespace Go.Proofs.YtnapcfpecpgdbaaDoor.M
open Go.RowKit Go.Proofs.YtnapcfpecpgdbaaDoorW.PrintWords Go.Proofs.YtnapcfpecpgdbaaDoorW.PrintLast Go.Proofs.YtnapcfpecpgdbaaDoorW.PrintMore
attribute [local go_sem] max2_int min2_int max_two min_two max_three min_three max_four min_four   -- for this text's walks alone
set_option linter.unusedVariables false
set_option linter.unusedSimpArgs false

/-! ### r7_GetCommit: function 8 -/
mutual
def r7_GetCommit.j1 : Nat → ByteArray → Bool → ByteArray → List ByteArray → ByteArray → Int → ByteArray → Option (ByteArray × List ByteArray × ByteArray × Int × ByteArray × Int)
 | 0, _, _, _, _, _, _, _ => none
 | k + 1, x6, x7, x291000, x291001, x291002, x291003, x291004 => (r7_line.f k x6 (⟨#[97, 117, 116, 104, 111, 114]⟩ : ByteArray)).bind fun bt304 => ((r7_line.f k bt304.2.1 (⟨#[116, 105, 109, 101]⟩ : ByteArray)).bind fun bt307 => ((r2_Undec.f k bt307.1).bind fun bt310 => (if x7 = true then (if bt304.2.2 = true then (if bt307.2.2 = true then (if (x291000.size : Int) = 32 then (if bt310.2 = 0 then (if (bt307.2.1.size : Int) = 0 then (r7_GetCommit.j2 k bt307.2.1 bt304.1 bt310.1 true x291000 x291001 x291002 x291003 x291004) else (if 0 < (bt307.2.1.size : Int) then (r7_GetCommit.j2 k bt307.2.1 bt304.1 bt310.1 ((bt bt307.2.1 0) != 10) x291000 x291001 x291002 x291003 x291004) else (none))) else (r7_GetCommit.j2 k bt307.2.1 bt304.1 bt310.1 true x291000 x291001 x291002 x291003 x291004)) else (r7_GetCommit.j2 k bt307.2.1 bt304.1 bt310.1 true x291000 x291001 x291002 x291003 x291004)) else (r7_GetCommit.j2 k bt307.2.1 bt304.1 bt310.1 true x291000 x291001 x291002 x291003 x291004)) else (r7_GetCommit.j2 k bt307.2.1 bt304.1 bt310.1 true x291000 x291001 x291002 x291003 x291004)) else (r7_GetCommit.j2 k bt307.2.1 bt304.1 bt310.1 true x291000 x291001 x291002 x291003 x291004))))
def r7_GetCommit.j2 : Nat → ByteArray → ByteArray → Int → Bool → ByteArray → List ByteArray → ByteArray → Int → ByteArray → Option (ByteArray × List ByteArray × ByteArray × Int × ByteArray × Int)
 | 0, _, _, _, _, _, _, _, _, _ => none
 | k + 1, x6, x13, x17, x103, x291000, x291001, x291002, x291003, x291004 => if x103 = true then (some ((⟨#[]⟩ : ByteArray), ([] : List ByteArray), (⟨#[]⟩ : ByteArray), 0, (⟨#[]⟩ : ByteArray), 6)) else (if 1 ≤ (x6.size : Int) then ((r7_CheckCommit.f k x291000 x291001 x13 x17 (x6.extract 1 x6.size)).bind fun t312 => (if t312 = 0 then (some (x291000, x291001, x13, x17, x6.extract 1 x6.size, 0)) else (some ((⟨#[]⟩ : ByteArray), ([] : List ByteArray), (⟨#[]⟩ : ByteArray), 0, (⟨#[]⟩ : ByteArray), t312)))) else (none))
def r7_GetCommit.l0 : Nat → ByteArray → Bool → ByteArray → List ByteArray → ByteArray → Int → ByteArray → Option (ByteArray × List ByteArray × ByteArray × Int × ByteArray × Int)
 | 0, _, _, _, _, _, _, _ => none
 | k + 1, x6, x7, x291000, x291001, x291002, x291003, x291004 => if x7 = true then ((r7_line.f k x6 (⟨#[112, 97, 114, 101, 110, 116]⟩ : ByteArray)).bind fun bt296 => (if bt296.2.2 = true then ((r7_id.f k bt296.1).bind fun bt299 => (if bt299.2 = true then (if x291001.length < 8796093022208 then (r7_GetCommit.l0 k bt296.2.1 x7 x291000 (x291001 ++ [bt299.1]) x291002 x291003 x291004) else (none)) else (some ((⟨#[]⟩ : ByteArray), ([] : List ByteArray), (⟨#[]⟩ : ByteArray), 0, (⟨#[]⟩ : ByteArray), 6)))) else (r7_GetCommit.j1 k x6 x7 x291000 x291001 x291002 x291003 x291004))) else (r7_GetCommit.j1 k x6 x7 x291000 x291001 x291002 x291003 x291004)
end
def r7_GetCommit.f (k : Nat) (a0 : ByteArray) : Option (ByteArray × List ByteArray × ByteArray × Int × ByteArray × Int) := (r7_line.f k a0 (⟨#[116, 114, 101, 101]⟩ : ByteArray)).bind fun bt291 => ((r7_id.f k bt291.1).bind fun bt294 => (r7_GetCommit.l0 k bt291.2.1 bt291.2.2 bt294.1 ([] : List ByteArray) (⟨#[]⟩ : ByteArray) 0 (⟨#[]⟩ : ByteArray)))
theorem r7_GetCommit.mono_l : ∀ k, (∀ y0 y1 y2 y3 y4 y5 y6, LeO (r7_GetCommit.j1 k y0 y1 y2 y3 y4 y5 y6) (r7_GetCommit.j1 (k + 1) y0 y1 y2 y3 y4 y5 y6)) ∧ (∀ y0 y1 y2 y3 y4 y5 y6 y7 y8, LeO (r7_GetCommit.j2 k y0 y1 y2 y3 y4 y5 y6 y7 y8) (r7_GetCommit.j2 (k + 1) y0 y1 y2 y3 y4 y5 y6 y7 y8)) ∧ (∀ y0 y1 y2 y3 y4 y5 y6, LeO (r7_GetCommit.l0 k y0 y1 y2 y3 y4 y5 y6) (r7_GetCommit.l0 (k + 1) y0 y1 y2 y3 y4 y5 y6))
 | 0 => ⟨fun _ _ _ _ _ _ _ r h => by simp [r7_GetCommit.j1] at h, fun _ _ _ _ _ _ _ _ _ r h => by simp [r7_GetCommit.j2] at h, fun _ _ _ _ _ _ _ r h => by simp [r7_GetCommit.l0] at h⟩
 | k + 1 => by
  obtain ⟨ih0, ih1, ih2⟩ := r7_GetCommit.mono_l k
  refine ⟨?_, ?_, ?_⟩
  all_goals (intros; first | unfold r7_GetCommit.j1 | unfold r7_GetCommit.j2 | unfold r7_GetCommit.l0)
  all_goals repeat' with_reducible first | exact ih0 _ _ _ _ _ _ _ | exact ih1 _ _ _ _ _ _ _ _ _ | exact ih2 _ _ _ _ _ _ _ | exact r2_Undec.mono _ _ | exact r7_CheckCommit.mono _ _ _ _ _ _ | exact r7_id.mono _ _ | exact r7_line.mono _ _ _ | exact LeO.refl _ | exact LeO.none _ | refine LeO.ite ?_ ?_ | refine LeO.bind ?_ (fun _ => ?_)
theorem r7_GetCommit.mono : ∀ a0 k, LeO (r7_GetCommit.f k a0) (r7_GetCommit.f (k + 1) a0) := by
 intro a0 k
 obtain ⟨ih0, ih1, ih2⟩ := r7_GetCommit.mono_l k
 unfold r7_GetCommit.f
 repeat' with_reducible first | exact ih0 _ _ _ _ _ _ _ | exact ih1 _ _ _ _ _ _ _ _ _ | exact ih2 _ _ _ _ _ _ _ | exact r2_Undec.mono _ _ | exact r7_CheckCommit.mono _ _ _ _ _ _ | exact r7_id.mono _ _ | exact r7_line.mono _ _ _ | exact LeO.refl _ | exact LeO.none _ | refine LeO.ite ?_ ?_ | refine LeO.bind ?_ (fun _ => ?_)
def r7_GetCommit.T16 : Bool × List (List Nat × List Nat) := (true, [([], []), ([], []), ([], []), ([2], [2]), ([0], []), ([4, 0, 0], [0, 4]), ([0, 1, 4, 5], []), ([6, 1, 5, 0, 1, 4, 5], [1, 6]), ([0, 1, 2, 3, 4, 5, 6, 7], []), ([8, 3, 7, 0, 1, 2, 3, 4, 5, 6, 7], [3, 8])])
def r7_GetCommit.B16 : List Nat := [0, 0, 0, 4, 1, 17, 51, 115, 255, 511]
theorem r7_GetCommit.tab16 : rtab .any (opsOf Tryd.f8 16) = r7_GetCommit.T16 := by kernel_rfl
theorem r7_GetCommit.bits16 : waitsOk r7_GetCommit.T16.2 r7_GetCommit.B16 = true := by kernel_rfl
set_option maxHeartbeats 8000000 in
set_option maxRecDepth 100000 in
theorem r7_GetCommit.calls (k : Nat) (a0 : ByteArray) (r1 : ByteArray) (r2 : List ByteArray) (r3 : ByteArray) (r4 : Int) (r5 : ByteArray) (r6 : Int) (w : World) (h : r7_GetCommit.f k a0 = some (r1, r2, r3, r4, r5, r6)) :
 Calls Tryd.prog 8 #[.string a0] w fun e w' => ∃ v1_ : Value, e = .returned (.tuple #[.agg #[.string r1, v1_, .string r3, .int .u64 r4, .string r5], .int .i64 r6]) ∧ Kd.R Kd.string 9 w' w.heap.size (fun _ => True) v1_ r2 ∧ Below w.heap.size w w' := by
 have hu30 := Tryd.underlying30
 have HB := Aside0.mk (Below.refl w.heap.size w)
 have H : ((r7_line.f k a0 (⟨#[116, 114, 101, 101]⟩ : ByteArray)).bind fun bt291 => ((r7_id.f k bt291.1).bind fun bt294 => (r7_GetCommit.l0 k bt291.2.1 bt291.2.2 bt294.1 ([] : List ByteArray) (⟨#[]⟩ : ByteArray) 0 (⟨#[]⟩ : ByteArray)))) = some (r1, r2, r3, r4, r5, r6) := h
 clear h
 replace H := Option.bind_eq_some_iff.mp H
 obtain ⟨⟨t291, t292, t293⟩, A20, H⟩ := H
 try dsimp only at H
 have A2 := Aside0.mk A20
 clear A20
 replace H := Option.bind_eq_some_iff.mp H
 obtain ⟨⟨t294, t295⟩, A30, H⟩ := H
 try dsimp only at H
 have A3 := Aside0.mk A30
 clear A30
 have HC4 := Aside0.mk H
 clear H
 go_enter Tryd.func8, Tryd.ntmps8
 go_upto_block 0 with (first | ((with_reducible refine gate_dst (N := 2) rfl ?_); (try (refine gate_guard (by rfl) ?_; dsimp only)); refine box_event ?hg (N := 2) ?hd (cs := #[.string (⟨#[]⟩ : ByteArray), .slice none 0 0, .string (⟨#[]⟩ : ByteArray), .int .u64 0, .string (⟨#[]⟩ : ByteArray)]) (t := 30) ?hr ?_; (case hd => rfl); (case hg => rfl); (case hr => first | (go_simp; done) | (go_simp; rfl)); intro gb289 hg w5 hbox hb; have n0_ := Aside0.mk (below_step bz_ hb); have n1_ := Aside0.mk (hbox); have n2_ := Aside0.mk ((by rw [hg]; exact (below_size bz_) : w.heap.size ≤ gb289)); have n3_ := Aside0.mk ((by rw [hg]; exact (below_size bz_) : w.heap.size ≤ gb289)); clear HB; have HB := n0_; have BK289 := n1_; have GW289 := n2_; have GE289 := n3_; clear n0_ n1_ n2_ n3_; clear hb hbox hg) | ((with_reducible refine gate_dst (N := 4) rfl ?_); (try (refine gate_guard (by rfl) ?_; dsimp only)); refine box_event ?hg (N := 4) ?hd (cs := #[.string (⟨#[]⟩ : ByteArray), .slice none 0 0, .string (⟨#[]⟩ : ByteArray), .int .u64 0, .string (⟨#[]⟩ : ByteArray)]) (t := 30) ?hr ?_; (case hd => rfl); (case hg => rfl); (case hr => first | (go_simp; done) | (go_simp; rfl)); intro gb290 hg w6 hbox hb; have n0_ := Aside0.mk (blk_below (g := gb289) (o := .cells #[.string (⟨#[]⟩ : ByteArray), .slice none 0 0, .string (⟨#[]⟩ : ByteArray), .int .u64 0, .string (⟨#[]⟩ : ByteArray)] 30 (0, 0)) (kz_ BK289.out) hb); have n1_ := Aside0.mk (below_step (bs1_ GE289.out) hb); have n2_ := Aside0.mk (hbox); have n3_ := Aside0.mk ((by rw [hg]; exact (below_size (bs1_ GE289.out)) : w.heap.size ≤ gb290)); have n4_ := Aside0.mk ((by rw [hg]; exact (below_size (bs1_ GE289.out)) : w.heap.size ≤ gb290)); have n5_ := Aside0.mk ((by rw [hg]; exact Nat.ne_of_lt (blk_lt (g := gb289) (o := .cells #[.string (⟨#[]⟩ : ByteArray), .slice none 0 0, .string (⟨#[]⟩ : ByteArray), .int .u64 0, .string (⟨#[]⟩ : ByteArray)] 30 (0, 0)) (kz_ BK289.out)) : gb289 ≠ gb290)); have n6_ := Aside0.mk ((by rw [hg]; exact Nat.ne_of_gt (blk_lt (g := gb289) (o := .cells #[.string (⟨#[]⟩ : ByteArray), .slice none 0 0, .string (⟨#[]⟩ : ByteArray), .int .u64 0, .string (⟨#[]⟩ : ByteArray)] 30 (0, 0)) (kz_ BK289.out)) : gb290 ≠ gb289)); clear BK289; clear HB; have BK289 := n0_; have HB := n1_; have BK290 := n2_; have GW290 := n3_; have GE290 := n4_; have NB289_290 := n5_; have NB290_289 := n6_; clear n0_ n1_ n2_ n3_ n4_ n5_ n6_; clear hb hbox hg; have hnb7 := NB290_289.out; have hnc7 := NB289_290.out; have hcz8_0 : w6.cell? ⟨gb290, 0, none⟩ = some (.string (⟨#[]⟩ : ByteArray)) := (blk_cell BK290.out 0).trans rfl; have hcz8_1 : w6.cell? ⟨gb290, 1, none⟩ = some (.slice none 0 0) := (blk_cell BK290.out 1).trans rfl; have hcz8_2 : w6.cell? ⟨gb290, 2, none⟩ = some (.string (⟨#[]⟩ : ByteArray)) := (blk_cell BK290.out 2).trans rfl; have hcz8_3 : w6.cell? ⟨gb290, 3, none⟩ = some (.int .u64 0) := (blk_cell BK290.out 3).trans rfl; have hcz8_4 : w6.cell? ⟨gb290, 4, none⟩ = some (.string (⟨#[]⟩ : ByteArray)) := (blk_cell BK290.out 4).trans rfl; have hfz8_0 := blk_frozen BK290.out 0; have hfz8_1 := blk_frozen BK290.out 1; have hfz8_2 := blk_frozen BK290.out 2; have hfz8_3 := blk_frozen BK290.out 3; have hfz8_4 := blk_frozen BK290.out 4) | ((with_reducible refine gate_callee (f := 24) rfl ?_); refine goesM_ (some 23) Tryd.func24 #[.string a0, .string (⟨#[116, 114, 101, 101]⟩ : ByteArray)] ?_; (with_reducible refine (r7_line.calls k a0 (⟨#[116, 114, 101, 101]⟩ : ByteArray) t291 t292 t293 _ A2.out).mono ?_); rintro e w' ⟨rfl, ⟨nd, rfl⟩⟩; refine ⟨_, rfl, ?_⟩) | ((with_reducible refine gate_callee (f := 25) rfl ?_); refine goesM_ (some 29) Tryd.func25 #[.string t291] ?_; (with_reducible refine (r7_id.calls k t291 t294 t295 _ A3.out).mono ?_); rintro e w9 ⟨rfl, hb⟩; refine ⟨_, rfl, ?_⟩; have n0_ := Aside0.mk (blk_below (g := gb289) (o := .cells #[.string (⟨#[]⟩ : ByteArray), .slice none 0 0, .string (⟨#[]⟩ : ByteArray), .int .u64 0, .string (⟨#[]⟩ : ByteArray)] 30 (0, 0)) (by (with_reducible repeat (first | refine blk_drewN ?_ _ | refine blk_drew ?_ | refine blk_alloc ?_ _)); refine blk_far ?_ NB289_290.out _; (with_reducible repeat (first | refine blk_drewN ?_ _ | refine blk_drew ?_ | refine blk_alloc ?_ _)); refine blk_far ?_ NB289_290.out _; (with_reducible repeat (first | refine blk_drewN ?_ _ | refine blk_drew ?_ | refine blk_alloc ?_ _)); refine blk_far ?_ NB289_290.out _; (with_reducible repeat (first | refine blk_drewN ?_ _ | refine blk_drew ?_ | refine blk_alloc ?_ _)); refine blk_far ?_ NB289_290.out _; (with_reducible repeat (first | refine blk_drewN ?_ _ | refine blk_drew ?_ | refine blk_alloc ?_ _)); refine blk_far ?_ NB289_290.out _; (with_reducible repeat (first | refine blk_drewN ?_ _ | refine blk_drew ?_ | refine blk_alloc ?_ _)); exact BK289.out) hb); have n1_ := Aside0.mk (blk_below (g := gb290) (o := .cells #[.string (⟨#[]⟩ : ByteArray), .slice none 0 0, .string (⟨#[]⟩ : ByteArray), .int .u64 0, .string (⟨#[]⟩ : ByteArray)] 30 (0, 0)) (by (with_reducible repeat (first | refine blk_drewN ?_ _ | refine blk_drew ?_ | refine blk_alloc ?_ _)); refine blk_put (cs := #[.string (⟨#[]⟩ : ByteArray), .slice none 0 0, .string (⟨#[]⟩ : ByteArray), .int .u64 0, .string (⟨#[]⟩ : ByteArray)]) ?_ 4 _ rfl; (with_reducible repeat (first | refine blk_drewN ?_ _ | refine blk_drew ?_ | refine blk_alloc ?_ _)); refine blk_put (cs := #[.string (⟨#[]⟩ : ByteArray), .slice none 0 0, .string (⟨#[]⟩ : ByteArray), .int .u64 0, .string (⟨#[]⟩ : ByteArray)]) ?_ 3 _ rfl; (with_reducible repeat (first | refine blk_drewN ?_ _ | refine blk_drew ?_ | refine blk_alloc ?_ _)); refine blk_put (cs := #[.string (⟨#[]⟩ : ByteArray), .slice none 0 0, .string (⟨#[]⟩ : ByteArray), .int .u64 0, .string (⟨#[]⟩ : ByteArray)]) ?_ 2 _ rfl; (with_reducible repeat (first | refine blk_drewN ?_ _ | refine blk_drew ?_ | refine blk_alloc ?_ _)); refine blk_put (cs := #[.string (⟨#[]⟩ : ByteArray), .slice none 0 0, .string (⟨#[]⟩ : ByteArray), .int .u64 0, .string (⟨#[]⟩ : ByteArray)]) ?_ 1 _ rfl; (with_reducible repeat (first | refine blk_drewN ?_ _ | refine blk_drew ?_ | refine blk_alloc ?_ _)); refine blk_put (cs := #[.string (⟨#[]⟩ : ByteArray), .slice none 0 0, .string (⟨#[]⟩ : ByteArray), .int .u64 0, .string (⟨#[]⟩ : ByteArray)]) ?_ 0 _ rfl; (with_reducible repeat (first | refine blk_drewN ?_ _ | refine blk_drew ?_ | refine blk_alloc ?_ _)); exact BK290.out) hb); have n2_ := Aside0.mk (below_step (bs2_ GE289.out GE290.out) hb); clear BK289; clear BK290; clear HB; have BK289 := n0_; have BK290 := n1_; have HB := n2_; clear n0_ n1_ n2_; (try clear hb); (try clear hb2); (try clear hk); (try clear hi); have hcz10_0 : w9.cell? ⟨gb290, 0, none⟩ = some (.string (⟨#[]⟩ : ByteArray)) := (blk_cell BK290.out 0).trans rfl; have hcz10_1 : w9.cell? ⟨gb290, 1, none⟩ = some (.slice none 0 0) := (blk_cell BK290.out 1).trans rfl; have hcz10_2 : w9.cell? ⟨gb290, 2, none⟩ = some (.string (⟨#[]⟩ : ByteArray)) := (blk_cell BK290.out 2).trans rfl; have hcz10_3 : w9.cell? ⟨gb290, 3, none⟩ = some (.int .u64 0) := (blk_cell BK290.out 3).trans rfl; have hcz10_4 : w9.cell? ⟨gb290, 4, none⟩ = some (.string (⟨#[]⟩ : ByteArray)) := (blk_cell BK290.out 4).trans rfl; have hfz10_0 := blk_frozen BK290.out 0; have hfz10_1 := blk_frozen BK290.out 1; have hfz10_2 := blk_frozen BK290.out 2; have hfz10_3 := blk_frozen BK290.out 3; have hfz10_4 := blk_frozen BK290.out 4))
 (try simp only [Act.put, List.setIfInBounds_toArray, List.set_cons_zero, List.set_cons_succ])
 go_cut [6] (fun v6 wc => ∃ (kq : Nat) (x6_3 : ByteArray) (x290000_3 : ByteArray) (x290002_3 : ByteArray) (x290003_3 : Int) (x290004_3 : ByteArray) (x291001_3 : List ByteArray) (u291001 : Value), v6 = .string x6_3 ∧ Aside0 (r7_GetCommit.j1 kq x6_3 t293 t294 x291001_3 (⟨#[]⟩ : ByteArray) 0 (⟨#[]⟩ : ByteArray) = some (r1, r2, r3, r4, r5, r6)) ∧ Aside0 (kq ≤ k) ∧ Aside0 (Kd.R Kd.string 9 wc w.heap.size (fun _ => True) u291001 x291001_3) ∧ Aside0 (wc.heap[gb289]? = some (.cells #[.string x290000_3, (.slice none 0 0), .string x290002_3, .int .u64 x290003_3, .string x290004_3] 30 (0, 0))) ∧ Aside0 (wc.heap[gb290]? = some (.cells #[.string t294, u291001, .string (⟨#[]⟩ : ByteArray), .int .u64 0, .string (⟨#[]⟩ : ByteArray)] 30 (0, 0))) ∧ Aside0 (Below w.heap.size w wc))
 case first =>
  have H := HC4.out
  clear HC4
  have H' := Aside0.mk H
  clear H
  go_wp2
  go_loopg [6] k (fun kq v6 w' => ∃ (x6_1 : ByteArray) (x290000_1 : ByteArray) (x290002_1 : ByteArray) (x290003_1 : Int) (x290004_1 : ByteArray) (x291001_1 : List ByteArray) (u291001 : Value), v6 = .string x6_1 ∧ Aside0 (r7_GetCommit.l0 kq x6_1 t293 t294 x291001_1 (⟨#[]⟩ : ByteArray) 0 (⟨#[]⟩ : ByteArray) = some (r1, r2, r3, r4, r5, r6)) ∧ Aside0 (kq ≤ k) ∧ Aside0 (Kd.R Kd.string 9 w' w.heap.size (fun _ => True) u291001 x291001_1) ∧ Aside0 (w'.heap[gb289]? = some (.cells #[.string x290000_1, (.slice none 0 0), .string x290002_1, .int .u64 x290003_1, .string x290004_1] 30 (0, 0))) ∧ Aside0 (w'.heap[gb290]? = some (.cells #[.string t294, u291001, .string (⟨#[]⟩ : ByteArray), .int .u64 0, .string (⟨#[]⟩ : ByteArray)] 30 (0, 0))) ∧ Aside0 (Below w.heap.size w w'))
  case atStart => exact ⟨(t292), ((⟨#[]⟩ : ByteArray)), ((⟨#[]⟩ : ByteArray)), (0), ((⟨#[]⟩ : ByteArray)), (([] : List ByteArray)), (.slice none 0 0), ez_, H', ⟨Nat.le_refl _⟩, ⟨nz_⟩, ⟨by (with_reducible repeat (first | refine blk_drewN ?_ _ | refine blk_drew ?_ | refine blk_alloc ?_ _)); refine blk_far ?_ NB289_290.out _; (with_reducible repeat (first | refine blk_drewN ?_ _ | refine blk_drew ?_ | refine blk_alloc ?_ _)); exact BK289.out⟩, ⟨by (with_reducible repeat (first | refine blk_drewN ?_ _ | refine blk_drew ?_ | refine blk_alloc ?_ _)); refine blk_put (cs := #[.string (⟨#[]⟩ : ByteArray), .slice none 0 0, .string (⟨#[]⟩ : ByteArray), .int .u64 0, .string (⟨#[]⟩ : ByteArray)]) ?_ 0 _ rfl; (with_reducible repeat (first | refine blk_drewN ?_ _ | refine blk_drew ?_ | refine blk_alloc ?_ _)); exact BK290.out⟩, ⟨bs2_ GE289.out GE290.out⟩⟩
  case round =>
   clear H'
   try clear c2
   try clear p2
   try clear c7
   try clear c8
   try clear hcz10_0
   try clear hcz10_1
   try clear hcz10_2
   try clear hcz10_3
   try clear hcz10_4
   try clear hcz8_0
   try clear hcz8_1
   try clear hcz8_2
   try clear hcz8_3
   try clear hcz8_4
   try clear hfz10_0
   try clear hfz10_1
   try clear hfz10_2
   try clear hfz10_3
   try clear hfz10_4
   try clear hfz8_0
   try clear hfz8_1
   try clear hfz8_2
   try clear hfz8_3
   try clear hfz8_4
   obtain ⟨x6_1, x290000_1, x290002_1, x290003_1, x290004_1, x291001_1, u291001, rfl, HA, HK1, HO_291001, BK289, BK290, HB⟩ := hrel
   cases gk with
   | zero => exact absurd HA.out (by simp [r7_GetCommit.l0])
   | succ k1 =>
    have H := HA.out
    clear HA
    simp only [r7_GetCommit.l0] at H
    by_cases c11 : t293 = true
    ·
     subst c11
     have H1 := H
     rw [if_pos rfl] at H1
     clear H
     have H := H1
     clear H1
     replace H := Option.bind_eq_some_iff.mp H
     obtain ⟨⟨t296, t297, t298⟩, A120, H⟩ := H
     try dsimp only at H
     have A12 := Aside0.mk A120
     clear A120
     by_cases c13 : t298 = true
     ·
      subst c13
      have H1 := H
      rw [if_pos rfl] at H1
      clear H
      have H := H1
      clear H1
      replace H := Option.bind_eq_some_iff.mp H
      obtain ⟨⟨t299, t300⟩, A140, H⟩ := H
      try dsimp only at H
      have A14 := Aside0.mk A140
      clear A140
      by_cases c15 : t300 = true
      ·
       subst c15
       have H1 := H
       rw [if_pos rfl] at H1
       clear H
       have H := H1
       clear H1
       by_cases c16 : x291001_1.length < 8796093022208
       · rw [if_pos c16] at H
         have LMc16 := Aside0.mk c16
         clear c16
         obtain ⟨y301, hy301⟩ : ∃ y_ : List ByteArray, y_ = (x291001_1 ++ [t299]) := ⟨_, rfl⟩
         replace H : (r7_GetCommit.l0 k1 t297 true t294 y301 (⟨#[]⟩ : ByteArray) 0 (⟨#[]⟩ : ByteArray)) = some (r1, r2, r3, r4, r5, r6) := by first | (rw [hy301]; with_reducible exact H) | (have H2_ := (Option.bind_some _ _).symm.trans H; rw [hy301]; with_reducible exact H2_) | (have H2_ := (Option.bind_some _ _).symm.trans H; with_reducible exact H2_) | with_reducible exact H | (rw [hy301]; exact H) | exact H
         have Ny301 := Aside0.mk hy301
         clear hy301
         have H' := Aside0.mk H
         clear H
         go_wp2_with (first | ((with_reducible refine gate_callee (f := 24) rfl ?_); refine goesM_ (some 36) Tryd.func24 #[.string x6_1, .string (⟨#[112, 97, 114, 101, 110, 116]⟩ : ByteArray)] ?_; (with_reducible refine (r7_line.calls k1 x6_1 (⟨#[112, 97, 114, 101, 110, 116]⟩ : ByteArray) t296 t297 true _ A12.out).mono ?_); rintro e w' ⟨rfl, ⟨nd, rfl⟩⟩; refine ⟨_, rfl, ?_⟩; (try (rw [drewN_self wr]; generalize hq_ : World.drewN wr _ = wr; have n0_ : Aside0 (Kd.R Kd.string 9 wr w.heap.size (fun _ => True) u291001 x291001_1) := ⟨by rw [← hq_]; exact (rz_ HO_291001.out)⟩; have n1_ : Aside0 (wr.heap[gb289]? = some (.cells #[.string x290000_1, .slice none 0 0, .string x290002_1, .int .u64 x290003_1, .string x290004_1] 30 (0, 0))) := ⟨by rw [← hq_]; exact (kz_ BK289.out)⟩; have n2_ : Aside0 (wr.heap[gb290]? = some (.cells #[.string t294, u291001, .string (⟨#[]⟩ : ByteArray), .int .u64 0, .string (⟨#[]⟩ : ByteArray)] 30 (0, 0))) := ⟨by rw [← hq_]; exact (kz_ BK290.out)⟩; have n3_ : Aside0 (Below w.heap.size w wr) := ⟨by rw [← hq_]; exact (bs2_ GE289.out GE290.out)⟩; clear HO_291001 BK289 BK290 HB hq_; have HO_291001 := n0_; have BK289 := n1_; have BK290 := n2_; have HB := n3_; clear n0_ n1_ n2_ n3_))) | ((with_reducible refine gate_callee (f := 25) rfl ?_); refine goesM_ (some 44) Tryd.func25 #[.string t296] ?_; (with_reducible refine (r7_id.calls k1 t296 t299 true _ A14.out).mono ?_); rintro e w17 ⟨rfl, hb⟩; refine ⟨_, rfl, ?_⟩; have n0_ := Aside0.mk (Kd.R_below (rz_ HO_291001.out) hb); have n1_ := Aside0.mk (blk_below (g := gb289) (o := .cells #[.string x290000_1, .slice none 0 0, .string x290002_1, .int .u64 x290003_1, .string x290004_1] 30 (0, 0)) (kz_ BK289.out) hb); have n2_ := Aside0.mk (blk_below (g := gb290) (o := .cells #[.string t294, u291001, .string (⟨#[]⟩ : ByteArray), .int .u64 0, .string (⟨#[]⟩ : ByteArray)] 30 (0, 0)) (kz_ BK290.out) hb); have n3_ := Aside0.mk (below_step (bs2_ GE289.out GE290.out) hb); clear HO_291001; clear BK289; clear BK290; clear HB; have HO_291001 := n0_; have BK289 := n1_; have BK290 := n2_; have HB := n3_; clear n0_ n1_ n2_ n3_; (try clear hb); (try clear hb2); (try clear hk); (try clear hi); have hnb18 := NB290_289.out; have hnc18 := NB289_290.out; have hcz19_0 : w17.cell? ⟨gb290, 0, none⟩ = some (.string t294) := (blk_cell BK290.out 0).trans rfl; have hcz19_1 : w17.cell? ⟨gb290, 1, none⟩ = some (u291001) := (blk_cell BK290.out 1).trans rfl; have hcz19_2 : w17.cell? ⟨gb290, 2, none⟩ = some (.string (⟨#[]⟩ : ByteArray)) := (blk_cell BK290.out 2).trans rfl; have hcz19_3 : w17.cell? ⟨gb290, 3, none⟩ = some (.int .u64 0) := (blk_cell BK290.out 3).trans rfl; have hcz19_4 : w17.cell? ⟨gb290, 4, none⟩ = some (.string (⟨#[]⟩ : ByteArray)) := (blk_cell BK290.out 4).trans rfl; have hfz19_0 := blk_frozen BK290.out 0; have hfz19_1 := blk_frozen BK290.out 1; have hfz19_2 := blk_frozen BK290.out 2; have hfz19_3 := blk_frozen BK290.out 3; have hfz19_4 := blk_frozen BK290.out 4) | ((with_reducible refine gate_builtin (b := .append) (xs := #[.tmp 51, .tmp 53]) rfl ?_); (try (refine gate_guard (by rfl) ?_; dsimp only)); at_builtin; refine Kd.R_append Kd.string (w0 := w) w.heap.size rfl (.tmp 51) (.tmp 53) 22 9 (.string ⟨#[]⟩) 16 rfl Tryd.underlying22 info9 rfl (by decide) (by omega) u291001 x291001_1 t299 [.string t299] (fun _ => True) (fun _ => False) rfl rfl ?aP (fun _ hk => hk.elim) ?aF ?aO ?aB ?aS ?aL ?_; (case aP => exact rfl); (case aB => exact (bs2_ GE289.out GE290.out)); (case aF => exact (fun _ _ => trivial)); (case aO => exact (rz_ HO_291001.out)); (case aS => exact (below_size (bs2_ GE289.out GE290.out))); (case aL => have := LMc16.out; omega); intro v302 w20 ho hb hg hat; rw [← Ny301.out] at ho; have n0_ := Aside0.mk (blk_grown (g := gb289) (o := .cells #[.string x290000_1, .slice none 0 0, .string x290002_1, .int .u64 x290003_1, .string x290004_1] 30 (0, 0)) (kz_ BK289.out) hg (Kd.R_ne HO_291001.out BK289.out (by decide))); have n1_ := Aside0.mk (blk_grown (g := gb290) (o := .cells #[.string t294, u291001, .string (⟨#[]⟩ : ByteArray), .int .u64 0, .string (⟨#[]⟩ : ByteArray)] 30 (0, 0)) (kz_ BK290.out) hg (Kd.R_ne HO_291001.out BK290.out (by decide))); have n2_ := Aside0.mk (hb); have n3_ := Aside0.mk (ho); clear BK289; clear BK290; clear HB; clear HO_291001; have BK289 := n0_; have BK290 := n1_; have HB := n2_; have HO303 := n3_; clear n0_ n1_ n2_ n3_; clear ho hb hg hat; obtain ⟨Ao21, co21, eo21⟩ := Kd.R_slice HO303.out; subst eo21; have hcz22_0 : w20.cell? ⟨gb290, 0, none⟩ = some (.string t294) := (blk_cell BK290.out 0).trans rfl; have hcz22_1 : w20.cell? ⟨gb290, 1, none⟩ = some (u291001) := (blk_cell BK290.out 1).trans rfl; have hcz22_2 : w20.cell? ⟨gb290, 2, none⟩ = some (.string (⟨#[]⟩ : ByteArray)) := (blk_cell BK290.out 2).trans rfl; have hcz22_3 : w20.cell? ⟨gb290, 3, none⟩ = some (.int .u64 0) := (blk_cell BK290.out 3).trans rfl; have hcz22_4 : w20.cell? ⟨gb290, 4, none⟩ = some (.string (⟨#[]⟩ : ByteArray)) := (blk_cell BK290.out 4).trans rfl; have hfz22_0 := blk_frozen BK290.out 0; have hfz22_1 := blk_frozen BK290.out 1; have hfz22_2 := blk_frozen BK290.out 2; have hfz22_3 := blk_frozen BK290.out 3; have hfz22_4 := blk_frozen BK290.out 4))
         go_roundg k1
         case measure => have := HK1.out; omega
         case rel => exact ⟨(t297), (x290000_1), (x290002_1), (x290003_1), (x290004_1), (y301), (.slice Ao21 y301.length co21), ez_, H', ⟨by have := HK1.out; omega⟩, ⟨rz_ (Kd.R_mono (Kd.R_far (p := ⟨gb290, 1, none⟩) (Kd.R_types HO303.out BK290.out (by decide)) (fun _ hk => hk.2) (.slice Ao21 y301.length co21)) (fun _ hk => trivial))⟩, ⟨by (with_reducible repeat (first | refine blk_drewN ?_ _ | refine blk_drew ?_ | refine blk_alloc ?_ _)); refine blk_far ?_ NB289_290.out _; (with_reducible repeat (first | refine blk_drewN ?_ _ | refine blk_drew ?_ | refine blk_alloc ?_ _)); exact BK289.out⟩, ⟨by (with_reducible repeat (first | refine blk_drewN ?_ _ | refine blk_drew ?_ | refine blk_alloc ?_ _)); refine blk_put (cs := #[.string t294, u291001, .string (⟨#[]⟩ : ByteArray), .int .u64 0, .string (⟨#[]⟩ : ByteArray)]) ?_ 1 _ rfl; (with_reducible repeat (first | refine blk_drewN ?_ _ | refine blk_drew ?_ | refine blk_alloc ?_ _)); exact BK290.out⟩, ⟨bs2_ GE289.out GE290.out⟩⟩
       · rw [if_neg c16] at H
         exact absurd H (by simp)
      · replace c15 := Bool.eq_false_iff.mpr c15
        subst c15
        have H1 := H
        rw [if_neg (show ¬ (false = true) by decide)] at H1
        clear H
        have H := H1
        clear H1
        simp only [Option.some.injEq, Prod.mk.injEq] at H
        obtain ⟨rfl, rfl, rfl, rfl, rfl, rfl⟩ := H
        go_wp2_with (first | ((with_reducible refine gate_callee (f := 24) rfl ?_); refine goesM_ (some 36) Tryd.func24 #[.string x6_1, .string (⟨#[112, 97, 114, 101, 110, 116]⟩ : ByteArray)] ?_; (with_reducible refine (r7_line.calls k1 x6_1 (⟨#[112, 97, 114, 101, 110, 116]⟩ : ByteArray) t296 t297 true _ A12.out).mono ?_); rintro e w' ⟨rfl, ⟨nd, rfl⟩⟩; refine ⟨_, rfl, ?_⟩; (try (rw [drewN_self wr]; generalize hq_ : World.drewN wr _ = wr; have n0_ : Aside0 (Kd.R Kd.string 9 wr w.heap.size (fun _ => True) u291001 x291001_1) := ⟨by rw [← hq_]; exact (rz_ HO_291001.out)⟩; have n1_ : Aside0 (wr.heap[gb289]? = some (.cells #[.string x290000_1, .slice none 0 0, .string x290002_1, .int .u64 x290003_1, .string x290004_1] 30 (0, 0))) := ⟨by rw [← hq_]; exact (kz_ BK289.out)⟩; have n2_ : Aside0 (wr.heap[gb290]? = some (.cells #[.string t294, u291001, .string (⟨#[]⟩ : ByteArray), .int .u64 0, .string (⟨#[]⟩ : ByteArray)] 30 (0, 0))) := ⟨by rw [← hq_]; exact (kz_ BK290.out)⟩; have n3_ : Aside0 (Below w.heap.size w wr) := ⟨by rw [← hq_]; exact (bs2_ GE289.out GE290.out)⟩; clear HO_291001 BK289 BK290 HB hq_; have HO_291001 := n0_; have BK289 := n1_; have BK290 := n2_; have HB := n3_; clear n0_ n1_ n2_ n3_))) | ((with_reducible refine gate_callee (f := 25) rfl ?_); refine goesM_ (some 44) Tryd.func25 #[.string t296] ?_; (with_reducible refine (r7_id.calls k1 t296 t299 false _ A14.out).mono ?_); rintro e w23 ⟨rfl, hb⟩; refine ⟨_, rfl, ?_⟩; have n0_ := Aside0.mk (Kd.R_below (rz_ HO_291001.out) hb); have n1_ := Aside0.mk (blk_below (g := gb289) (o := .cells #[.string x290000_1, .slice none 0 0, .string x290002_1, .int .u64 x290003_1, .string x290004_1] 30 (0, 0)) (kz_ BK289.out) hb); have n2_ := Aside0.mk (blk_below (g := gb290) (o := .cells #[.string t294, u291001, .string (⟨#[]⟩ : ByteArray), .int .u64 0, .string (⟨#[]⟩ : ByteArray)] 30 (0, 0)) (kz_ BK290.out) hb); have n3_ := Aside0.mk (below_step (bs2_ GE289.out GE290.out) hb); clear HO_291001; clear BK289; clear BK290; clear HB; have HO_291001 := n0_; have BK289 := n1_; have BK290 := n2_; have HB := n3_; clear n0_ n1_ n2_ n3_; (try clear hb); (try clear hb2); (try clear hk); (try clear hi); have hnb24 := NB289_290.out; have hnc24 := NB290_289.out; have hcz25_0 : w23.cell? ⟨gb289, 0, none⟩ = some (.string x290000_1) := (blk_cell BK289.out 0).trans rfl; have hcz25_1 : w23.cell? ⟨gb289, 1, none⟩ = some (.slice none 0 0) := (blk_cell BK289.out 1).trans rfl; have hcz25_2 : w23.cell? ⟨gb289, 2, none⟩ = some (.string x290002_1) := (blk_cell BK289.out 2).trans rfl; have hcz25_3 : w23.cell? ⟨gb289, 3, none⟩ = some (.int .u64 x290003_1) := (blk_cell BK289.out 3).trans rfl; have hcz25_4 : w23.cell? ⟨gb289, 4, none⟩ = some (.string x290004_1) := (blk_cell BK289.out 4).trans rfl; have hfz25_0 := blk_frozen BK289.out 0; have hfz25_1 := blk_frozen BK289.out 1; have hfz25_2 := blk_frozen BK289.out 2; have hfz25_3 := blk_frozen BK289.out 3; have hfz25_4 := blk_frozen BK289.out 4))
        refine bodyPost_ret (results_ct rfl _ _ gb289 30 #[.string (⟨#[]⟩ : ByteArray), .slice none 0 0, .string (⟨#[]⟩ : ByteArray), .int .u64 0, .string (⟨#[]⟩ : ByteArray)] (0, 0) _ rfl (by (with_reducible repeat (first | refine blk_drewN ?_ _ | refine blk_drew ?_ | refine blk_alloc ?_ _)); refine blk_put (cs := #[.string (⟨#[]⟩ : ByteArray), .slice none 0 0, .string (⟨#[]⟩ : ByteArray), .int .u64 0, .string x290004_1]) ?_ 4 _ rfl; (with_reducible repeat (first | refine blk_drewN ?_ _ | refine blk_drew ?_ | refine blk_alloc ?_ _)); refine blk_put (cs := #[.string (⟨#[]⟩ : ByteArray), .slice none 0 0, .string (⟨#[]⟩ : ByteArray), .int .u64 x290003_1, .string x290004_1]) ?_ 3 _ rfl; (with_reducible repeat (first | refine blk_drewN ?_ _ | refine blk_drew ?_ | refine blk_alloc ?_ _)); refine blk_put (cs := #[.string (⟨#[]⟩ : ByteArray), .slice none 0 0, .string x290002_1, .int .u64 x290003_1, .string x290004_1]) ?_ 2 _ rfl; (with_reducible repeat (first | refine blk_drewN ?_ _ | refine blk_drew ?_ | refine blk_alloc ?_ _)); refine blk_put (cs := #[.string (⟨#[]⟩ : ByteArray), .slice none 0 0, .string x290002_1, .int .u64 x290003_1, .string x290004_1]) ?_ 1 _ rfl; (with_reducible repeat (first | refine blk_drewN ?_ _ | refine blk_drew ?_ | refine blk_alloc ?_ _)); refine blk_put (cs := #[.string x290000_1, .slice none 0 0, .string x290002_1, .int .u64 x290003_1, .string x290004_1]) ?_ 0 _ rfl; (with_reducible repeat (first | refine blk_drewN ?_ _ | refine blk_drew ?_ | refine blk_alloc ?_ _)); exact BK289.out) Tryd.underlying30 rfl (by kernel_rfl)) rfl ?_
        exact ⟨_, xz_, nz_, bs2_ GE289.out GE290.out⟩
     · replace c13 := Bool.eq_false_iff.mpr c13
       subst c13
       have H1 := H
       rw [if_neg (show ¬ (false = true) by decide)] at H1
       clear H
       have H := H1
       clear H1
       have H' := Aside0.mk H
       clear H
       go_wp2_with (first | ((with_reducible refine gate_callee (f := 24) rfl ?_); refine goesM_ (some 36) Tryd.func24 #[.string x6_1, .string (⟨#[112, 97, 114, 101, 110, 116]⟩ : ByteArray)] ?_; (with_reducible refine (r7_line.calls k1 x6_1 (⟨#[112, 97, 114, 101, 110, 116]⟩ : ByteArray) t296 t297 false _ A12.out).mono ?_); rintro e w' ⟨rfl, ⟨nd, rfl⟩⟩; refine ⟨_, rfl, ?_⟩))
       go_meet
       case rel => exact ⟨_, (x6_1), (x290000_1), (x290002_1), (x290003_1), (x290004_1), (x291001_1), (u291001), ez_, H', ⟨by have := HK1.out; first | omega | exact Nat.le_refl _⟩, ⟨rz_ HO_291001.out⟩, ⟨kz_ BK289.out⟩, ⟨kz_ BK290.out⟩, ⟨bs2_ GE289.out GE290.out⟩⟩
    · replace c11 := Bool.eq_false_iff.mpr c11
      subst c11
      have H1 := H
      rw [if_neg (show ¬ (false = true) by decide)] at H1
      clear H
      have H := H1
      clear H1
      have H' := Aside0.mk H
      clear H
      go_wp2
      go_meet
      case rel => exact ⟨_, (x6_1), (x290000_1), (x290002_1), (x290003_1), (x290004_1), (x291001_1), (u291001), ez_, H', ⟨by have := HK1.out; first | omega | exact Nat.le_refl _⟩, ⟨rz_ HO_291001.out⟩, ⟨kz_ BK289.out⟩, ⟨kz_ BK290.out⟩, ⟨bs2_ GE289.out GE290.out⟩⟩
 case rest =>
  clear HC4
  try clear c1
  try clear c2
  try clear p2
  try clear c7
  try clear c8
  try clear c11
  try clear c13
  try clear c15
  try clear c16
  try clear c18
  try clear c24
  try clear c25
  try clear hcz10_0
  try clear hcz10_1
  try clear hcz10_2
  try clear hcz10_3
  try clear hcz10_4
  try clear hcz19_0
  try clear hcz19_1
  try clear hcz19_2
  try clear hcz19_3
  try clear hcz19_4
  try clear hcz22_0
  try clear hcz22_1
  try clear hcz22_2
  try clear hcz22_3
  try clear hcz22_4
  try clear hcz25_0
  try clear hcz25_1
  try clear hcz25_2
  try clear hcz25_3
  try clear hcz25_4
  try clear hcz8_0
  try clear hcz8_1
  try clear hcz8_2
  try clear hcz8_3
  try clear hcz8_4
  try clear hfz10_0
  try clear hfz10_1
  try clear hfz10_2
  try clear hfz10_3
  try clear hfz10_4
  try clear hfz19_0
  try clear hfz19_1
  try clear hfz19_2
  try clear hfz19_3
  try clear hfz19_4
  try clear hfz22_0
  try clear hfz22_1
  try clear hfz22_2
  try clear hfz22_3
  try clear hfz22_4
  try clear hfz25_0
  try clear hfz25_1
  try clear hfz25_2
  try clear hfz25_3
  try clear hfz25_4
  try clear hfz8_0
  try clear hfz8_1
  try clear hfz8_2
  try clear hfz8_3
  try clear hfz8_4
  try clear p2
  obtain ⟨kq, x6_3, x290000_3, x290002_3, x290003_3, x290004_3, x291001_3, u291001, rfl, HA, HJ3, HO_291001, BK289, BK290, HB⟩ := hcut
  cases kq with
  | zero => exact absurd HA.out (by simp [r7_GetCommit.j1])
  | succ kj3 =>
   have H := HA.out
   clear HA
   simp only [r7_GetCommit.j1] at H
   replace H := Option.bind_eq_some_iff.mp H
   obtain ⟨⟨t304, t305, t306⟩, A260, H⟩ := H
   try dsimp only at H
   have A26 := Aside0.mk A260
   clear A260
   replace H := Option.bind_eq_some_iff.mp H
   obtain ⟨⟨t307, t308, t309⟩, A270, H⟩ := H
   try dsimp only at H
   have A27 := Aside0.mk A270
   clear A270
   replace H := Option.bind_eq_some_iff.mp H
   obtain ⟨⟨t310, t311⟩, A280, H⟩ := H
   try dsimp only at H
   have A28 := Aside0.mk A280
   clear A280
   have HC29 := Aside0.mk H
   clear H
   go_upto_region 14 with (first | ((with_reducible refine gate_callee (f := 24) rfl ?_); refine goesM_ (some 59) Tryd.func24 #[.string x6_3, .string (⟨#[97, 117, 116, 104, 111, 114]⟩ : ByteArray)] ?_; (with_reducible refine (r7_line.calls kj3 x6_3 (⟨#[97, 117, 116, 104, 111, 114]⟩ : ByteArray) t304 t305 t306 _ A26.out).mono ?_); rintro e w' ⟨rfl, ⟨nd, rfl⟩⟩; refine ⟨_, rfl, ?_⟩) | ((with_reducible refine gate_callee (f := 24) rfl ?_); refine goesM_ (some 65) Tryd.func24 #[.string t305, .string (⟨#[116, 105, 109, 101]⟩ : ByteArray)] ?_; (with_reducible refine (r7_line.calls kj3 t305 (⟨#[116, 105, 109, 101]⟩ : ByteArray) t307 t308 t309 _ A27.out).mono ?_); rintro e w' ⟨rfl, ⟨nd, rfl⟩⟩; refine ⟨_, rfl, ?_⟩) | ((with_reducible refine gate_callee (f := 26) rfl ?_); refine goesM_ (some 71) Tryd.func26 #[.string t307] ?_; (with_reducible refine (r2_Undec.calls kj3 t307 t310 t311 _ A28.out).mono ?_); rintro e w' ⟨rfl, ⟨nd, rfl⟩⟩; refine ⟨_, rfl, ?_⟩))
   (try simp only [Act.put, List.setIfInBounds_toArray, List.set_cons_zero, List.set_cons_succ])
   go_cut [103] (fun v103 wc => ∃ (kq : Nat) (x103_28 : Bool), v103 = .bool x103_28 ∧ Aside0 (r7_GetCommit.j2 kq t308 t304 t310 x103_28 t294 x291001_3 (⟨#[]⟩ : ByteArray) 0 (⟨#[]⟩ : ByteArray) = some (r1, r2, r3, r4, r5, r6)) ∧ Aside0 (kq ≤ kj3) ∧ Aside0 (Kd.R Kd.string 9 wc w.heap.size (fun _ => True) u291001 x291001_3) ∧ Aside0 (wc.heap[gb289]? = some (.cells #[.string x290000_3, (.slice none 0 0), .string x290002_3, .int .u64 x290003_3, .string x290004_3] 30 (0, 0))) ∧ Aside0 (wc.heap[gb290]? = some (.cells #[.string t294, u291001, .string (⟨#[]⟩ : ByteArray), .int .u64 0, .string (⟨#[]⟩ : ByteArray)] 30 (0, 0))) ∧ Aside0 (Below w.heap.size w wc))
   case first =>
    have H := HC29.out
    clear HC29
    by_cases c30 : t293 = true
    ·
     subst c30
     have H1 := H
     rw [if_pos rfl] at H1
     clear H
     have H := H1
     clear H1
     by_cases c31 : t306 = true
     ·
      subst c31
      have H1 := H
      rw [if_pos rfl] at H1
      clear H
      have H := H1
      clear H1
      by_cases c32 : t309 = true
      ·
       subst c32
       have H1 := H
       rw [if_pos rfl] at H1
       clear H
       have H := H1
       clear H1
       by_cases c33 : (t294.size : Int) = 32
       ·
        rw [if_pos c33] at H
        have c33b0 : ((t294.size : Int) == 32) = true := beq_iff_eq.mpr c33
        have c33b1 : ((t294.size : Int) != 32) = false := bne_eq_false_iff_eq.mpr c33
        clear c33
        (first | rw [c33b0] | (simp only [i64_w, i32_w]; rw [c33b0]) | skip)
        by_cases c34 : t311 = 0
        ·
         rw [if_pos c34] at H
         have c34b0 : (t311 == 0) = true := beq_iff_eq.mpr c34
         have c34b1 : (t311 != 0) = false := bne_eq_false_iff_eq.mpr c34
         clear c34
         by_cases c35 : (t308.size : Int) = 0
         ·
          rw [if_pos c35] at H
          have c35b0 : ((t308.size : Int) == 0) = true := beq_iff_eq.mpr c35
          have c35b1 : ((t308.size : Int) != 0) = false := bne_eq_false_iff_eq.mpr c35
          clear c35
          have H' := Aside0.mk H
          clear H
          have hnb36 := NB290_289.out
          have hnc36 := NB289_290.out
          have hcz37_0 : wc.cell? ⟨gb290, 0, none⟩ = some (.string t294) := (blk_cell BK290.out 0).trans rfl
          have hcz37_1 : wc.cell? ⟨gb290, 1, none⟩ = some (u291001) := (blk_cell BK290.out 1).trans rfl
          have hcz37_2 : wc.cell? ⟨gb290, 2, none⟩ = some (.string (⟨#[]⟩ : ByteArray)) := (blk_cell BK290.out 2).trans rfl
          have hcz37_3 : wc.cell? ⟨gb290, 3, none⟩ = some (.int .u64 0) := (blk_cell BK290.out 3).trans rfl
          have hcz37_4 : wc.cell? ⟨gb290, 4, none⟩ = some (.string (⟨#[]⟩ : ByteArray)) := (blk_cell BK290.out 4).trans rfl
          have hfz37_0 := blk_frozen BK290.out 0
          have hfz37_1 := blk_frozen BK290.out 1
          have hfz37_2 := blk_frozen BK290.out 2
          have hfz37_3 := blk_frozen BK290.out 3
          have hfz37_4 := blk_frozen BK290.out 4
          go_wp2
          go_meet
          case rel => exact ⟨_, (true), ez_, H', ⟨by have := HJ3.out; first | omega | exact Nat.le_refl _⟩, ⟨rz_ HO_291001.out⟩, ⟨kz_ BK289.out⟩, ⟨kz_ BK290.out⟩, ⟨bs2_ GE289.out GE290.out⟩⟩
         ·
          rw [if_neg c35] at H
          have c35b0 : ((t308.size : Int) == 0) = false := beq_eq_false_iff_ne.mpr c35
          have c35b1 : ((t308.size : Int) != 0) = true := bne_iff_ne.mpr c35
          by_cases c38 : 0 < (t308.size : Int)
          ·
           rw [if_pos c38] at H
           have c38b0 : decide (0 < (t308.size : Int)) = true := decide_eq_true c38
           have c38b1 : decide (0 < t308.size) = true := decide_eq_true (by omega)
           clear c38
           have H' := Aside0.mk H
           clear H
           have hnb40 := NB290_289.out
           have hnc40 := NB289_290.out
           have hcz41_0 : wc.cell? ⟨gb290, 0, none⟩ = some (.string t294) := (blk_cell BK290.out 0).trans rfl
           have hcz41_1 : wc.cell? ⟨gb290, 1, none⟩ = some (u291001) := (blk_cell BK290.out 1).trans rfl
           have hcz41_2 : wc.cell? ⟨gb290, 2, none⟩ = some (.string (⟨#[]⟩ : ByteArray)) := (blk_cell BK290.out 2).trans rfl
           have hcz41_3 : wc.cell? ⟨gb290, 3, none⟩ = some (.int .u64 0) := (blk_cell BK290.out 3).trans rfl
           have hcz41_4 : wc.cell? ⟨gb290, 4, none⟩ = some (.string (⟨#[]⟩ : ByteArray)) := (blk_cell BK290.out 4).trans rfl
           have hfz41_0 := blk_frozen BK290.out 0
           have hfz41_1 := blk_frozen BK290.out 1
           have hfz41_2 := blk_frozen BK290.out 2
           have hfz41_3 := blk_frozen BK290.out 3
           have hfz41_4 := blk_frozen BK290.out 4
           have p39 : 0 ≤ (0 : Int) := (by omega)
           have q39 : 0 < t308.size := (by have : (0 : Int) < (t308.size : Int) := of_decide_eq_true az_; omega)
           have hx39 : ∀ h : 0 < t308.size, ((t308[0]'h).toNat : Int) = bt t308 0 := bt_at t308 0
           clear p39
           have qi39 : (0 < (t308.size : Int)) = True := eq_true (of_decide_eq_true az_)
           replace q39 := eq_true q39
           go_wp2
           go_meet
           case rel => exact ⟨_, (((bt t308 0) != 10)), ez_, H', ⟨by have := HJ3.out; first | omega | exact Nat.le_refl _⟩, ⟨rz_ HO_291001.out⟩, ⟨kz_ BK289.out⟩, ⟨kz_ BK290.out⟩, ⟨bs2_ GE289.out GE290.out⟩⟩
          · rw [if_neg c38] at H
            exact absurd H (by simp)
        ·
         rw [if_neg c34] at H
         have c34b0 : (t311 == 0) = false := beq_eq_false_iff_ne.mpr c34
         have c34b1 : (t311 != 0) = true := bne_iff_ne.mpr c34
         have H' := Aside0.mk H
         clear H
         have hnb42 := NB290_289.out
         have hnc42 := NB289_290.out
         have hcz43_0 : wc.cell? ⟨gb290, 0, none⟩ = some (.string t294) := (blk_cell BK290.out 0).trans rfl
         have hcz43_1 : wc.cell? ⟨gb290, 1, none⟩ = some (u291001) := (blk_cell BK290.out 1).trans rfl
         have hcz43_2 : wc.cell? ⟨gb290, 2, none⟩ = some (.string (⟨#[]⟩ : ByteArray)) := (blk_cell BK290.out 2).trans rfl
         have hcz43_3 : wc.cell? ⟨gb290, 3, none⟩ = some (.int .u64 0) := (blk_cell BK290.out 3).trans rfl
         have hcz43_4 : wc.cell? ⟨gb290, 4, none⟩ = some (.string (⟨#[]⟩ : ByteArray)) := (blk_cell BK290.out 4).trans rfl
         have hfz43_0 := blk_frozen BK290.out 0
         have hfz43_1 := blk_frozen BK290.out 1
         have hfz43_2 := blk_frozen BK290.out 2
         have hfz43_3 := blk_frozen BK290.out 3
         have hfz43_4 := blk_frozen BK290.out 4
         go_wp2
         go_meet
         case rel => exact ⟨_, (true), ez_, H', ⟨by have := HJ3.out; first | omega | exact Nat.le_refl _⟩, ⟨rz_ HO_291001.out⟩, ⟨kz_ BK289.out⟩, ⟨kz_ BK290.out⟩, ⟨bs2_ GE289.out GE290.out⟩⟩
       ·
        rw [if_neg c33] at H
        have c33b0 : ((t294.size : Int) == 32) = false := beq_eq_false_iff_ne.mpr c33
        have c33b1 : ((t294.size : Int) != 32) = true := bne_iff_ne.mpr c33
        (first | rw [c33b0] | (simp only [i64_w, i32_w]; rw [c33b0]) | skip)
        have H' := Aside0.mk H
        clear H
        have hnb44 := NB290_289.out
        have hnc44 := NB289_290.out
        have hcz45_0 : wc.cell? ⟨gb290, 0, none⟩ = some (.string t294) := (blk_cell BK290.out 0).trans rfl
        have hcz45_1 : wc.cell? ⟨gb290, 1, none⟩ = some (u291001) := (blk_cell BK290.out 1).trans rfl
        have hcz45_2 : wc.cell? ⟨gb290, 2, none⟩ = some (.string (⟨#[]⟩ : ByteArray)) := (blk_cell BK290.out 2).trans rfl
        have hcz45_3 : wc.cell? ⟨gb290, 3, none⟩ = some (.int .u64 0) := (blk_cell BK290.out 3).trans rfl
        have hcz45_4 : wc.cell? ⟨gb290, 4, none⟩ = some (.string (⟨#[]⟩ : ByteArray)) := (blk_cell BK290.out 4).trans rfl
        have hfz45_0 := blk_frozen BK290.out 0
        have hfz45_1 := blk_frozen BK290.out 1
        have hfz45_2 := blk_frozen BK290.out 2
        have hfz45_3 := blk_frozen BK290.out 3
        have hfz45_4 := blk_frozen BK290.out 4
        go_wp2
        go_meet
        case rel => exact ⟨_, (true), ez_, H', ⟨by have := HJ3.out; first | omega | exact Nat.le_refl _⟩, ⟨rz_ HO_291001.out⟩, ⟨kz_ BK289.out⟩, ⟨kz_ BK290.out⟩, ⟨bs2_ GE289.out GE290.out⟩⟩
      · replace c32 := Bool.eq_false_iff.mpr c32
        subst c32
        have H1 := H
        rw [if_neg (show ¬ (false = true) by decide)] at H1
        clear H
        have H := H1
        clear H1
        have H' := Aside0.mk H
        clear H
        go_wp2
        go_meet
        case rel => exact ⟨_, (true), ez_, H', ⟨by have := HJ3.out; first | omega | exact Nat.le_refl _⟩, ⟨rz_ HO_291001.out⟩, ⟨kz_ BK289.out⟩, ⟨kz_ BK290.out⟩, ⟨bs2_ GE289.out GE290.out⟩⟩
     · replace c31 := Bool.eq_false_iff.mpr c31
       subst c31
       have H1 := H
       rw [if_neg (show ¬ (false = true) by decide)] at H1
       clear H
       have H := H1
       clear H1
       have H' := Aside0.mk H
       clear H
       go_wp2
       go_meet
       case rel => exact ⟨_, (true), ez_, H', ⟨by have := HJ3.out; first | omega | exact Nat.le_refl _⟩, ⟨rz_ HO_291001.out⟩, ⟨kz_ BK289.out⟩, ⟨kz_ BK290.out⟩, ⟨bs2_ GE289.out GE290.out⟩⟩
    · replace c30 := Bool.eq_false_iff.mpr c30
      subst c30
      have H1 := H
      rw [if_neg (show ¬ (false = true) by decide)] at H1
      clear H
      have H := H1
      clear H1
      have H' := Aside0.mk H
      clear H
      go_wp2
      go_meet
      case rel => exact ⟨_, (true), ez_, H', ⟨by have := HJ3.out; first | omega | exact Nat.le_refl _⟩, ⟨rz_ HO_291001.out⟩, ⟨kz_ BK289.out⟩, ⟨kz_ BK290.out⟩, ⟨bs2_ GE289.out GE290.out⟩⟩
   case rest =>
    clear HC29
    try clear c1
    try clear c2
    try clear p2
    try clear c3
    try clear p3
    try clear q3
    try clear hx3
    try clear qi3
    try clear c4
    try clear c7
    try clear c8
    try clear c11
    try clear c13
    try clear c15
    try clear c16
    try clear c18
    try clear c24
    try clear c25
    try clear c26
    try clear c30
    try clear c31
    try clear c32
    try clear c33
    try clear c33b0
    try clear c33b1
    try clear c34
    try clear c34b0
    try clear c34b1
    try clear c35
    try clear c35b0
    try clear c35b1
    try clear c36
    try clear c38
    try clear c38b0
    try clear c38b1
    try clear p39
    try clear q39
    try clear hx39
    try clear qi39
    try clear c40
    try clear c42
    try clear c44
    try clear hcz10_0
    try clear hcz10_1
    try clear hcz10_2
    try clear hcz10_3
    try clear hcz10_4
    try clear hcz19_0
    try clear hcz19_1
    try clear hcz19_2
    try clear hcz19_3
    try clear hcz19_4
    try clear hcz22_0
    try clear hcz22_1
    try clear hcz22_2
    try clear hcz22_3
    try clear hcz22_4
    try clear hcz25_0
    try clear hcz25_1
    try clear hcz25_2
    try clear hcz25_3
    try clear hcz25_4
    try clear hcz37_0
    try clear hcz37_1
    try clear hcz37_2
    try clear hcz37_3
    try clear hcz37_4
    try clear hcz41_0
    try clear hcz41_1
    try clear hcz41_2
    try clear hcz41_3
    try clear hcz41_4
    try clear hcz43_0
    try clear hcz43_1
    try clear hcz43_2
    try clear hcz43_3
    try clear hcz43_4
    try clear hcz45_0
    try clear hcz45_1
    try clear hcz45_2
    try clear hcz45_3
    try clear hcz45_4
    try clear hcz8_0
    try clear hcz8_1
    try clear hcz8_2
    try clear hcz8_3
    try clear hcz8_4
    try clear hfz10_0
    try clear hfz10_1
    try clear hfz10_2
    try clear hfz10_3
    try clear hfz10_4
    try clear hfz19_0
    try clear hfz19_1
    try clear hfz19_2
    try clear hfz19_3
    try clear hfz19_4
    try clear hfz22_0
    try clear hfz22_1
    try clear hfz22_2
    try clear hfz22_3
    try clear hfz22_4
    try clear hfz25_0
    try clear hfz25_1
    try clear hfz25_2
    try clear hfz25_3
    try clear hfz25_4
    try clear hfz37_0
    try clear hfz37_1
    try clear hfz37_2
    try clear hfz37_3
    try clear hfz37_4
    try clear hfz41_0
    try clear hfz41_1
    try clear hfz41_2
    try clear hfz41_3
    try clear hfz41_4
    try clear hfz43_0
    try clear hfz43_1
    try clear hfz43_2
    try clear hfz43_3
    try clear hfz43_4
    try clear hfz45_0
    try clear hfz45_1
    try clear hfz45_2
    try clear hfz45_3
    try clear hfz45_4
    try clear hfz8_0
    try clear hfz8_1
    try clear hfz8_2
    try clear hfz8_3
    try clear hfz8_4
    try clear p2
    try clear p39
    try clear q39
    obtain ⟨kq, x103_28, rfl, HA, HJ28, HO_291001, BK289, BK290, HB⟩ := hcut
    cases kq with
    | zero => exact absurd HA.out (by simp [r7_GetCommit.j2])
    | succ kj28 =>
     have H := HA.out
     clear HA
     simp only [r7_GetCommit.j2] at H
     by_cases c46 : x103_28 = true
     ·
      subst c46
      have H1 := H
      rw [if_pos rfl] at H1
      clear H
      have H := H1
      clear H1
      simp only [Option.some.injEq, Prod.mk.injEq] at H
      obtain ⟨rfl, rfl, rfl, rfl, rfl, rfl⟩ := H
      have hnb47 := NB289_290.out
      have hnc47 := NB290_289.out
      have hcz48_0 : wc.cell? ⟨gb289, 0, none⟩ = some (.string x290000_3) := (blk_cell BK289.out 0).trans rfl
      have hcz48_1 : wc.cell? ⟨gb289, 1, none⟩ = some (.slice none 0 0) := (blk_cell BK289.out 1).trans rfl
      have hcz48_2 : wc.cell? ⟨gb289, 2, none⟩ = some (.string x290002_3) := (blk_cell BK289.out 2).trans rfl
      have hcz48_3 : wc.cell? ⟨gb289, 3, none⟩ = some (.int .u64 x290003_3) := (blk_cell BK289.out 3).trans rfl
      have hcz48_4 : wc.cell? ⟨gb289, 4, none⟩ = some (.string x290004_3) := (blk_cell BK289.out 4).trans rfl
      have hfz48_0 := blk_frozen BK289.out 0
      have hfz48_1 := blk_frozen BK289.out 1
      have hfz48_2 := blk_frozen BK289.out 2
      have hfz48_3 := blk_frozen BK289.out 3
      have hfz48_4 := blk_frozen BK289.out 4
      go_wp2
      refine bodyPost_ret (results_ct rfl _ _ gb289 30 #[.string (⟨#[]⟩ : ByteArray), .slice none 0 0, .string (⟨#[]⟩ : ByteArray), .int .u64 0, .string (⟨#[]⟩ : ByteArray)] (0, 0) _ rfl (by (with_reducible repeat (first | refine blk_drewN ?_ _ | refine blk_drew ?_ | refine blk_alloc ?_ _)); refine blk_put (cs := #[.string (⟨#[]⟩ : ByteArray), .slice none 0 0, .string (⟨#[]⟩ : ByteArray), .int .u64 0, .string x290004_3]) ?_ 4 _ rfl; (with_reducible repeat (first | refine blk_drewN ?_ _ | refine blk_drew ?_ | refine blk_alloc ?_ _)); refine blk_put (cs := #[.string (⟨#[]⟩ : ByteArray), .slice none 0 0, .string (⟨#[]⟩ : ByteArray), .int .u64 x290003_3, .string x290004_3]) ?_ 3 _ rfl; (with_reducible repeat (first | refine blk_drewN ?_ _ | refine blk_drew ?_ | refine blk_alloc ?_ _)); refine blk_put (cs := #[.string (⟨#[]⟩ : ByteArray), .slice none 0 0, .string x290002_3, .int .u64 x290003_3, .string x290004_3]) ?_ 2 _ rfl; (with_reducible repeat (first | refine blk_drewN ?_ _ | refine blk_drew ?_ | refine blk_alloc ?_ _)); refine blk_put (cs := #[.string (⟨#[]⟩ : ByteArray), .slice none 0 0, .string x290002_3, .int .u64 x290003_3, .string x290004_3]) ?_ 1 _ rfl; (with_reducible repeat (first | refine blk_drewN ?_ _ | refine blk_drew ?_ | refine blk_alloc ?_ _)); refine blk_put (cs := #[.string x290000_3, .slice none 0 0, .string x290002_3, .int .u64 x290003_3, .string x290004_3]) ?_ 0 _ rfl; (with_reducible repeat (first | refine blk_drewN ?_ _ | refine blk_drew ?_ | refine blk_alloc ?_ _)); exact BK289.out) Tryd.underlying30 rfl (by kernel_rfl)) rfl ?_
      exact ⟨_, xz_, nz_, bs2_ GE289.out GE290.out⟩
     ·
      replace c46 := Bool.eq_false_iff.mpr c46
      subst c46
      have H1 := H
      rw [if_neg (show ¬ (false = true) by decide)] at H1
      clear H
      have H := H1
      clear H1
      by_cases c49 : 1 ≤ (t308.size : Int)
      ·
       rw [if_pos c49] at H
       have c49b0 := eq_true c49
       have c49b1 : decide (1 ≤ (t308.size : Int)) = true := decide_eq_true c49
       clear c49
       replace H := Option.bind_eq_some_iff.mp H
       obtain ⟨t312, A500, H⟩ := H
       try dsimp only at H
       have A50 := Aside0.mk A500
       clear A500
       by_cases c51 : t312 = 0
       ·
        rw [if_pos c51] at H
        have c51b0 : (t312 == 0) = true := beq_iff_eq.mpr c51
        have c51b1 : (t312 != 0) = false := bne_eq_false_iff_eq.mpr c51
        clear c51
        simp only [Option.some.injEq, Prod.mk.injEq] at H
        obtain ⟨rfl, rfl, rfl, rfl, rfl, rfl⟩ := H
        try go_wp2
        have n0_ := Aside0.mk (Kd.R_drew HO_291001.out)
        have n1_ := Aside0.mk (blk_drew BK289.out)
        have n2_ := Aside0.mk (blk_drew BK290.out)
        have n3_ := Aside0.mk (below_drew1 HB.out)
        clear HO_291001
        clear BK289
        clear BK290
        clear HB
        have HO_291001 := n0_
        have BK289 := n1_
        have BK290 := n2_
        have HB := n3_
        clear n0_ n1_ n2_ n3_
        refine start_ (n := 10) (S := fun w' => True) (ds := []) #[false, false, false, false, false, false, false, false, false, false] (by kernel_rfl) rfl rfl trivial (fun hHeld => ?_); refine with_tabW r7_GetCommit.tab16 r7_GetCommit.bits16 (fun HT_ HW_ => ?_)
        generalize wc.drew = w52 at HO_291001 BK289 BK290 HB hHeld ⊢
        refine pure_ (i := 0) (N := some 105) (v := ?_) (a' := ?_) #[true, false, false, false, false, false, false, false, false, false] rfl rfl (any_of HT_.out (by kernel_rfl)) (fun _ _ _ h => h) (Or.inl ⟨by rfl, ?_⟩) ?_ ?_
        rotate_left
        · intro w'
          go_simp
          with_reducible rfl
        rotate_left
        · simp only [Act.put, List.setIfInBounds_toArray, List.set_cons_zero, List.set_cons_succ, i64_w, i32_w]
          rfl
        refine pure_ (i := 1) (N := some 106) (v := ?_) (a' := ?_) #[true, true, false, false, false, false, false, false, false, false] rfl rfl (any_of HT_.out (by kernel_rfl)) (fun _ _ _ h => h) (Or.inl ⟨by rfl, ?_⟩) ?_ ?_
        rotate_left
        · intro w'
          go_simp
          with_reducible rfl
        rotate_left
        · simp only [Act.put, List.setIfInBounds_toArray, List.set_cons_zero, List.set_cons_succ, i64_w, i32_w]
          rfl
        refine pure_ (i := 2) (N := some 107) (v := ?_) (a' := ?_) #[true, true, true, false, false, false, false, false, false, false] rfl rfl (any_of HT_.out (by kernel_rfl)) (fun _ _ _ h => h) (Or.inl ⟨by rfl, ?_⟩) ?_ ?_
        rotate_left
        · intro w'
          go_simp
          with_reducible rfl
        rotate_left
        · simp only [Act.put, List.setIfInBounds_toArray, List.set_cons_zero, List.set_cons_succ, i64_w, i32_w]
          rfl
        refine pure_ (i := 3) (N := some 108) (v := ?_) (a' := ?_) #[true, true, true, true, false, false, false, false, false, false] rfl rfl (any_of HT_.out (by kernel_rfl)) (fun _ _ _ h => h) (Or.inl ⟨by rfl, ?_⟩) ?_ ?_
        rotate_left
        · intro w'
          go_simp
          with_reducible rfl
        rotate_left
        · simp only [Act.put, List.setIfInBounds_toArray, List.set_cons_zero, List.set_cons_succ, i64_w, i32_w]
          rfl
        refine pure_ (i := 4) (N := some 109) (v := ?_) (a' := ?_) #[true, true, true, true, true, false, false, false, false, false] rfl rfl (any_of HT_.out (by kernel_rfl)) (fun _ _ _ h => h) (Or.inl ⟨by rfl, ?_⟩) ?_ ?_
        rotate_left
        · intro w'
          go_simp
          with_reducible rfl
        rotate_left
        · simp only [Act.put, List.setIfInBounds_toArray, List.set_cons_zero, List.set_cons_succ, i64_w, i32_w]
          rfl
        refine one_ (i := 5) (N := none) #[true, true, true, true, true, true, false, false, false, false] rfl rfl (one_of HT_.out (by kernel_rfl)) (by decide) (fun K hK => ?_)
        have hs53 : w52.cell? ⟨gb290, 2, none⟩ = some (.string (⟨#[]⟩ : ByteArray)) := (blk_cell BK290.out 2).trans rfl
        have hfs53 := blk_frozen BK290.out 2
        have hns53_0 := NB289_290.out
        have hms53_0 := NB290_289.out
        refine skip_ (w1 := ?_) (by rfl) rfl ?_ ?_
        rotate_left
        · go_simp
          rfl
        refine hK.out _ _ trivial (fun hHeld => ?_)
        clear hK K
        refine pure_ (i := 6) (N := some 110) (v := ?_) (a' := ?_) #[true, true, true, true, true, true, true, false, false, false] rfl rfl (any_of HT_.out (by kernel_rfl)) (fun _ _ _ h => h) (Or.inl ⟨by rfl, ?_⟩) ?_ ?_
        rotate_left
        · intro w'
          go_simp
          with_reducible rfl
        rotate_left
        · simp only [Act.put, List.setIfInBounds_toArray, List.set_cons_zero, List.set_cons_succ, i64_w, i32_w]
          rfl
        refine one_ (i := 7) (N := none) #[true, true, true, true, true, true, true, true, false, false] rfl rfl (one_of HT_.out (by kernel_rfl)) (by decide) (fun K hK => ?_)
        have hs54 : w52.cell? ⟨gb290, 3, none⟩ = some (.int .u64 0) := (blk_cell BK290.out 3).trans rfl
        have hfs54 := blk_frozen BK290.out 3
        have hns54_0 := NB289_290.out
        have hms54_0 := NB290_289.out
        refine skip_ (w1 := ?_) (by rfl) rfl ?_ ?_
        rotate_left
        · go_simp
          rfl
        refine hK.out _ _ trivial (fun hHeld => ?_)
        clear hK K
        refine pure_ (i := 8) (N := some 111) (v := ?_) (a' := ?_) #[true, true, true, true, true, true, true, true, true, false] rfl rfl (any_of HT_.out (by kernel_rfl)) (fun _ _ _ h => h) (Or.inl ⟨by rfl, ?_⟩) ?_ ?_
        rotate_left
        · intro w'
          go_simp
          with_reducible rfl
        rotate_left
        · simp only [Act.put, List.setIfInBounds_toArray, List.set_cons_zero, List.set_cons_succ, i64_w, i32_w]
          rfl
        refine one_ (i := 9) (N := none) #[true, true, true, true, true, true, true, true, true, true] rfl rfl (one_of HT_.out (by kernel_rfl)) (by decide) (fun K hK => ?_)
        have hs55 : w52.cell? ⟨gb290, 4, none⟩ = some (.string (⟨#[]⟩ : ByteArray)) := (blk_cell BK290.out 4).trans rfl
        have hfs55 := blk_frozen BK290.out 4
        have hns55_0 := NB289_290.out
        have hms55_0 := NB290_289.out
        refine skip_ (w1 := ?_) (by rfl) rfl ?_ ?_
        rotate_left
        · go_simp
          rfl
        refine hK.out _ _ trivial (fun hHeld => ?_)
        clear hK K
        refine done_ (done_of HT_.out (by kernel_rfl)) ?_
        have hnb56 := NB290_289.out
        have hnc56 := NB289_290.out
        have hcz57_0 : w52.cell? ⟨gb290, 0, none⟩ = some (.string t294) := (blk_cell BK290.out 0).trans rfl
        have hcz57_1 : w52.cell? ⟨gb290, 1, none⟩ = some (u291001) := (blk_cell BK290.out 1).trans rfl
        have hcz57_2 : w52.cell? ⟨gb290, 2, none⟩ = some (.string (⟨#[]⟩ : ByteArray)) := (blk_cell BK290.out 2).trans rfl
        have hcz57_3 : w52.cell? ⟨gb290, 3, none⟩ = some (.int .u64 0) := (blk_cell BK290.out 3).trans rfl
        have hcz57_4 : w52.cell? ⟨gb290, 4, none⟩ = some (.string (⟨#[]⟩ : ByteArray)) := (blk_cell BK290.out 4).trans rfl
        have hfz57_0 := blk_frozen BK290.out 0
        have hfz57_1 := blk_frozen BK290.out 1
        have hfz57_2 := blk_frozen BK290.out 2
        have hfz57_3 := blk_frozen BK290.out 3
        have hfz57_4 := blk_frozen BK290.out 4
        obtain ⟨Ao58, co58, eo58⟩ := Kd.R_slice HO_291001.out
        subst eo58
        try go_wp2_with (first | ((with_reducible refine gate_callee (f := 13) rfl ?_); refine goesM_ (some 113) Tryd.func13 #[.agg #[.string t294, .slice Ao58 x291001_3.length co58, .string t304, .int .u64 t310, .string (t308.extract 1 t308.size)]] ?_; (with_reducible refine (r7_CheckCommit.calls kj28 t294 _ _ x291001_3 t304 t310 (t308.extract 1 t308.size) t312 _ ?side1 ?side2 A50.out).mono ?_); (case side1 => refine (Kd.R_reads' (e := 9) (base := w.heap.size) (ok := fun k_ => True) (n := x291001_3.length) (c := co58) ?_).2.2; exact (rz_ ((Kd.R_mono (Kd.R_far (p := ⟨gb290, 4, none⟩) (Kd.R_far (p := ⟨gb290, 3, none⟩) (Kd.R_far (p := ⟨gb290, 2, none⟩) (Kd.R_types HO_291001.out BK290.out (by decide)) (fun _ hk => hk.2) (.string t304)) (fun _ hk => hk.2) (.int .u64 t310)) (fun _ hk => hk.2) (.string (t308.extract 1 t308.size))) (fun _ h_ => h_.1))))); (case side2 => exact (Kd.R_reads' HO_291001.out).2.1); rintro e w59 ⟨rfl, hb⟩; refine ⟨_, rfl, ?_⟩; have n0_ := Aside0.mk (Kd.R_below (rz_ ((Kd.R_mono (Kd.R_far (p := ⟨gb290, 4, none⟩) (Kd.R_far (p := ⟨gb290, 3, none⟩) (Kd.R_far (p := ⟨gb290, 2, none⟩) (Kd.R_types HO_291001.out BK290.out (by decide)) (fun _ hk => hk.2) (.string t304)) (fun _ hk => hk.2) (.int .u64 t310)) (fun _ hk => hk.2) (.string (t308.extract 1 t308.size))) (fun _ h_ => h_.1)))) hb); have n1_ := Aside0.mk (blk_below (g := gb289) (o := .cells #[.string x290000_3, .slice none 0 0, .string x290002_3, .int .u64 x290003_3, .string x290004_3] 30 (0, 0)) (by (with_reducible repeat (first | refine blk_drewN ?_ _ | refine blk_drew ?_ | refine blk_alloc ?_ _)); refine blk_far ?_ NB289_290.out _; (with_reducible repeat (first | refine blk_drewN ?_ _ | refine blk_drew ?_ | refine blk_alloc ?_ _)); refine blk_far ?_ NB289_290.out _; (with_reducible repeat (first | refine blk_drewN ?_ _ | refine blk_drew ?_ | refine blk_alloc ?_ _)); refine blk_far ?_ NB289_290.out _; (with_reducible repeat (first | refine blk_drewN ?_ _ | refine blk_drew ?_ | refine blk_alloc ?_ _)); exact BK289.out) hb); have n2_ := Aside0.mk (blk_below (g := gb290) (o := .cells #[.string t294, .slice Ao58 x291001_3.length co58, .string t304, .int .u64 t310, .string (t308.extract 1 t308.size)] 30 (0, 0)) (by (with_reducible repeat (first | refine blk_drewN ?_ _ | refine blk_drew ?_ | refine blk_alloc ?_ _)); refine blk_put (cs := #[.string t294, .slice Ao58 x291001_3.length co58, .string t304, .int .u64 t310, .string (⟨#[]⟩ : ByteArray)]) ?_ 4 _ rfl; (with_reducible repeat (first | refine blk_drewN ?_ _ | refine blk_drew ?_ | refine blk_alloc ?_ _)); refine blk_put (cs := #[.string t294, .slice Ao58 x291001_3.length co58, .string t304, .int .u64 0, .string (⟨#[]⟩ : ByteArray)]) ?_ 3 _ rfl; (with_reducible repeat (first | refine blk_drewN ?_ _ | refine blk_drew ?_ | refine blk_alloc ?_ _)); refine blk_put (cs := #[.string t294, .slice Ao58 x291001_3.length co58, .string (⟨#[]⟩ : ByteArray), .int .u64 0, .string (⟨#[]⟩ : ByteArray)]) ?_ 2 _ rfl; (with_reducible repeat (first | refine blk_drewN ?_ _ | refine blk_drew ?_ | refine blk_alloc ?_ _)); exact BK290.out) hb); have n3_ := Aside0.mk (below_step (bs2_ GE289.out GE290.out) hb); clear HO_291001; clear BK289; clear BK290; clear HB; have HO_291001 := n0_; have BK289 := n1_; have BK290 := n2_; have HB := n3_; clear n0_ n1_ n2_ n3_; (try clear hb); (try clear hb2); (try clear hk); (try clear hi); have hcz60_0 : w59.cell? ⟨gb290, 0, none⟩ = some (.string t294) := (blk_cell BK290.out 0).trans rfl; have hcz60_1 : w59.cell? ⟨gb290, 1, none⟩ = some (.slice Ao58 x291001_3.length co58) := (blk_cell BK290.out 1).trans rfl; have hcz60_2 : w59.cell? ⟨gb290, 2, none⟩ = some (.string t304) := (blk_cell BK290.out 2).trans rfl; have hcz60_3 : w59.cell? ⟨gb290, 3, none⟩ = some (.int .u64 t310) := (blk_cell BK290.out 3).trans rfl; have hcz60_4 : w59.cell? ⟨gb290, 4, none⟩ = some (.string (t308.extract 1 t308.size)) := (blk_cell BK290.out 4).trans rfl; have hfz60_0 := blk_frozen BK290.out 0; have hfz60_1 := blk_frozen BK290.out 1; have hfz60_2 := blk_frozen BK290.out 2; have hfz60_3 := blk_frozen BK290.out 3; have hfz60_4 := blk_frozen BK290.out 4; have hcz61_0 : w59.cell? ⟨gb289, 0, none⟩ = some (.string x290000_3) := (blk_cell BK289.out 0).trans rfl; have hcz61_1 : w59.cell? ⟨gb289, 1, none⟩ = some (.slice none 0 0) := (blk_cell BK289.out 1).trans rfl; have hcz61_2 : w59.cell? ⟨gb289, 2, none⟩ = some (.string x290002_3) := (blk_cell BK289.out 2).trans rfl; have hcz61_3 : w59.cell? ⟨gb289, 3, none⟩ = some (.int .u64 x290003_3) := (blk_cell BK289.out 3).trans rfl; have hcz61_4 : w59.cell? ⟨gb289, 4, none⟩ = some (.string x290004_3) := (blk_cell BK289.out 4).trans rfl; have hfz61_0 := blk_frozen BK289.out 0; have hfz61_1 := blk_frozen BK289.out 1; have hfz61_2 := blk_frozen BK289.out 2; have hfz61_3 := blk_frozen BK289.out 3; have hfz61_4 := blk_frozen BK289.out 4))
        refine bodyPost_ret (results_ct rfl _ _ gb289 30 #[.string t294, .slice Ao58 x291001_3.length co58, .string t304, .int .u64 t310, .string (t308.extract 1 t308.size)] (0, 0) _ rfl (by (with_reducible repeat (first | refine blk_drewN ?_ _ | refine blk_drew ?_ | refine blk_alloc ?_ _)); refine blk_put (cs := #[.string t294, .slice Ao58 x291001_3.length co58, .string t304, .int .u64 t310, .string x290004_3]) ?_ 4 _ rfl; (with_reducible repeat (first | refine blk_drewN ?_ _ | refine blk_drew ?_ | refine blk_alloc ?_ _)); refine blk_put (cs := #[.string t294, .slice Ao58 x291001_3.length co58, .string t304, .int .u64 x290003_3, .string x290004_3]) ?_ 3 _ rfl; (with_reducible repeat (first | refine blk_drewN ?_ _ | refine blk_drew ?_ | refine blk_alloc ?_ _)); refine blk_put (cs := #[.string t294, .slice Ao58 x291001_3.length co58, .string x290002_3, .int .u64 x290003_3, .string x290004_3]) ?_ 2 _ rfl; (with_reducible repeat (first | refine blk_drewN ?_ _ | refine blk_drew ?_ | refine blk_alloc ?_ _)); refine blk_put (cs := #[.string t294, .slice none 0 0, .string x290002_3, .int .u64 x290003_3, .string x290004_3]) ?_ 1 _ rfl; (with_reducible repeat (first | refine blk_drewN ?_ _ | refine blk_drew ?_ | refine blk_alloc ?_ _)); refine blk_put (cs := #[.string x290000_3, .slice none 0 0, .string x290002_3, .int .u64 x290003_3, .string x290004_3]) ?_ 0 _ rfl; (with_reducible repeat (first | refine blk_drewN ?_ _ | refine blk_drew ?_ | refine blk_alloc ?_ _)); exact BK289.out) Tryd.underlying30 rfl (by kernel_rfl)) rfl ?_
        exact ⟨_, xz_, rz_ (Kd.R_mono (Kd.R_far (p := ⟨gb289, 4, none⟩) (Kd.R_far (p := ⟨gb289, 3, none⟩) (Kd.R_far (p := ⟨gb289, 2, none⟩) (Kd.R_far (p := ⟨gb289, 1, none⟩) (Kd.R_far (p := ⟨gb289, 0, none⟩) (Kd.R_types HO_291001.out BK289.out (by decide)) (fun _ hk => hk.2) (.string t294)) (fun _ hk => hk.2) (.slice Ao58 x291001_3.length co58)) (fun _ hk => hk.2) (.string t304)) (fun _ hk => hk.2) (.int .u64 t310)) (fun _ hk => hk.2) (.string (t308.extract 1 t308.size))) (fun _ hk => trivial)), bs2_ GE289.out GE290.out⟩
       ·
        rw [if_neg c51] at H
        have c51b0 : (t312 == 0) = false := beq_eq_false_iff_ne.mpr c51
        have c51b1 : (t312 != 0) = true := bne_iff_ne.mpr c51
        simp only [Option.some.injEq, Prod.mk.injEq] at H
        obtain ⟨rfl, rfl, rfl, rfl, rfl, rfl⟩ := H
        try go_wp2
        have n0_ := Aside0.mk (Kd.R_drew HO_291001.out)
        have n1_ := Aside0.mk (blk_drew BK289.out)
        have n2_ := Aside0.mk (blk_drew BK290.out)
        have n3_ := Aside0.mk (below_drew1 HB.out)
        clear HO_291001
        clear BK289
        clear BK290
        clear HB
        have HO_291001 := n0_
        have BK289 := n1_
        have BK290 := n2_
        have HB := n3_
        clear n0_ n1_ n2_ n3_
        refine start_ (n := 10) (S := fun w' => True) (ds := []) #[false, false, false, false, false, false, false, false, false, false] (by kernel_rfl) rfl rfl trivial (fun hHeld => ?_); refine with_tabW r7_GetCommit.tab16 r7_GetCommit.bits16 (fun HT_ HW_ => ?_)
        generalize wc.drew = w62 at HO_291001 BK289 BK290 HB hHeld ⊢
        refine pure_ (i := 0) (N := some 105) (v := ?_) (a' := ?_) #[true, false, false, false, false, false, false, false, false, false] rfl rfl (any_of HT_.out (by kernel_rfl)) (fun _ _ _ h => h) (Or.inl ⟨by rfl, ?_⟩) ?_ ?_
        rotate_left
        · intro w'
          go_simp
          with_reducible rfl
        rotate_left
        · simp only [Act.put, List.setIfInBounds_toArray, List.set_cons_zero, List.set_cons_succ, i64_w, i32_w]
          rfl
        refine pure_ (i := 1) (N := some 106) (v := ?_) (a' := ?_) #[true, true, false, false, false, false, false, false, false, false] rfl rfl (any_of HT_.out (by kernel_rfl)) (fun _ _ _ h => h) (Or.inl ⟨by rfl, ?_⟩) ?_ ?_
        rotate_left
        · intro w'
          go_simp
          with_reducible rfl
        rotate_left
        · simp only [Act.put, List.setIfInBounds_toArray, List.set_cons_zero, List.set_cons_succ, i64_w, i32_w]
          rfl
        refine pure_ (i := 2) (N := some 107) (v := ?_) (a' := ?_) #[true, true, true, false, false, false, false, false, false, false] rfl rfl (any_of HT_.out (by kernel_rfl)) (fun _ _ _ h => h) (Or.inl ⟨by rfl, ?_⟩) ?_ ?_
        rotate_left
        · intro w'
          go_simp
          with_reducible rfl
        rotate_left
        · simp only [Act.put, List.setIfInBounds_toArray, List.set_cons_zero, List.set_cons_succ, i64_w, i32_w]
          rfl
        refine pure_ (i := 3) (N := some 108) (v := ?_) (a' := ?_) #[true, true, true, true, false, false, false, false, false, false] rfl rfl (any_of HT_.out (by kernel_rfl)) (fun _ _ _ h => h) (Or.inl ⟨by rfl, ?_⟩) ?_ ?_
        rotate_left
        · intro w'
          go_simp
          with_reducible rfl
        rotate_left
        · simp only [Act.put, List.setIfInBounds_toArray, List.set_cons_zero, List.set_cons_succ, i64_w, i32_w]
          rfl
        refine pure_ (i := 4) (N := some 109) (v := ?_) (a' := ?_) #[true, true, true, true, true, false, false, false, false, false] rfl rfl (any_of HT_.out (by kernel_rfl)) (fun _ _ _ h => h) (Or.inl ⟨by rfl, ?_⟩) ?_ ?_
        rotate_left
        · intro w'
          go_simp
          with_reducible rfl
        rotate_left
        · simp only [Act.put, List.setIfInBounds_toArray, List.set_cons_zero, List.set_cons_succ, i64_w, i32_w]
          rfl
        refine one_ (i := 5) (N := none) #[true, true, true, true, true, true, false, false, false, false] rfl rfl (one_of HT_.out (by kernel_rfl)) (by decide) (fun K hK => ?_)
        have hs63 : w62.cell? ⟨gb290, 2, none⟩ = some (.string (⟨#[]⟩ : ByteArray)) := (blk_cell BK290.out 2).trans rfl
        have hfs63 := blk_frozen BK290.out 2
        have hns63_0 := NB289_290.out
        have hms63_0 := NB290_289.out
        refine skip_ (w1 := ?_) (by rfl) rfl ?_ ?_
        rotate_left
        · go_simp
          rfl
        refine hK.out _ _ trivial (fun hHeld => ?_)
        clear hK K
        refine pure_ (i := 6) (N := some 110) (v := ?_) (a' := ?_) #[true, true, true, true, true, true, true, false, false, false] rfl rfl (any_of HT_.out (by kernel_rfl)) (fun _ _ _ h => h) (Or.inl ⟨by rfl, ?_⟩) ?_ ?_
        rotate_left
        · intro w'
          go_simp
          with_reducible rfl
        rotate_left
        · simp only [Act.put, List.setIfInBounds_toArray, List.set_cons_zero, List.set_cons_succ, i64_w, i32_w]
          rfl
        refine one_ (i := 7) (N := none) #[true, true, true, true, true, true, true, true, false, false] rfl rfl (one_of HT_.out (by kernel_rfl)) (by decide) (fun K hK => ?_)
        have hs64 : w62.cell? ⟨gb290, 3, none⟩ = some (.int .u64 0) := (blk_cell BK290.out 3).trans rfl
        have hfs64 := blk_frozen BK290.out 3
        have hns64_0 := NB289_290.out
        have hms64_0 := NB290_289.out
        refine skip_ (w1 := ?_) (by rfl) rfl ?_ ?_
        rotate_left
        · go_simp
          rfl
        refine hK.out _ _ trivial (fun hHeld => ?_)
        clear hK K
        refine pure_ (i := 8) (N := some 111) (v := ?_) (a' := ?_) #[true, true, true, true, true, true, true, true, true, false] rfl rfl (any_of HT_.out (by kernel_rfl)) (fun _ _ _ h => h) (Or.inl ⟨by rfl, ?_⟩) ?_ ?_
        rotate_left
        · intro w'
          go_simp
          with_reducible rfl
        rotate_left
        · simp only [Act.put, List.setIfInBounds_toArray, List.set_cons_zero, List.set_cons_succ, i64_w, i32_w]
          rfl
        refine one_ (i := 9) (N := none) #[true, true, true, true, true, true, true, true, true, true] rfl rfl (one_of HT_.out (by kernel_rfl)) (by decide) (fun K hK => ?_)
        have hs65 : w62.cell? ⟨gb290, 4, none⟩ = some (.string (⟨#[]⟩ : ByteArray)) := (blk_cell BK290.out 4).trans rfl
        have hfs65 := blk_frozen BK290.out 4
        have hns65_0 := NB289_290.out
        have hms65_0 := NB290_289.out
        refine skip_ (w1 := ?_) (by rfl) rfl ?_ ?_
        rotate_left
        · go_simp
          rfl
        refine hK.out _ _ trivial (fun hHeld => ?_)
        clear hK K
        refine done_ (done_of HT_.out (by kernel_rfl)) ?_
        have hnb66 := NB290_289.out
        have hnc66 := NB289_290.out
        have hcz67_0 : w62.cell? ⟨gb290, 0, none⟩ = some (.string t294) := (blk_cell BK290.out 0).trans rfl
        have hcz67_1 : w62.cell? ⟨gb290, 1, none⟩ = some (u291001) := (blk_cell BK290.out 1).trans rfl
        have hcz67_2 : w62.cell? ⟨gb290, 2, none⟩ = some (.string (⟨#[]⟩ : ByteArray)) := (blk_cell BK290.out 2).trans rfl
        have hcz67_3 : w62.cell? ⟨gb290, 3, none⟩ = some (.int .u64 0) := (blk_cell BK290.out 3).trans rfl
        have hcz67_4 : w62.cell? ⟨gb290, 4, none⟩ = some (.string (⟨#[]⟩ : ByteArray)) := (blk_cell BK290.out 4).trans rfl
        have hfz67_0 := blk_frozen BK290.out 0
        have hfz67_1 := blk_frozen BK290.out 1
        have hfz67_2 := blk_frozen BK290.out 2
        have hfz67_3 := blk_frozen BK290.out 3
        have hfz67_4 := blk_frozen BK290.out 4
        obtain ⟨Ao68, co68, eo68⟩ := Kd.R_slice HO_291001.out
        subst eo68
        try go_wp2_with (first | ((with_reducible refine gate_callee (f := 13) rfl ?_); refine goesM_ (some 113) Tryd.func13 #[.agg #[.string t294, .slice Ao68 x291001_3.length co68, .string t304, .int .u64 t310, .string (t308.extract 1 t308.size)]] ?_; (with_reducible refine (r7_CheckCommit.calls kj28 t294 _ _ x291001_3 t304 t310 (t308.extract 1 t308.size) t312 _ ?side1 ?side2 A50.out).mono ?_); (case side1 => refine (Kd.R_reads' (e := 9) (base := w.heap.size) (ok := fun k_ => True) (n := x291001_3.length) (c := co68) ?_).2.2; exact (rz_ ((Kd.R_mono (Kd.R_far (p := ⟨gb290, 4, none⟩) (Kd.R_far (p := ⟨gb290, 3, none⟩) (Kd.R_far (p := ⟨gb290, 2, none⟩) (Kd.R_types HO_291001.out BK290.out (by decide)) (fun _ hk => hk.2) (.string t304)) (fun _ hk => hk.2) (.int .u64 t310)) (fun _ hk => hk.2) (.string (t308.extract 1 t308.size))) (fun _ h_ => h_.1))))); (case side2 => exact (Kd.R_reads' HO_291001.out).2.1); rintro e w69 ⟨rfl, hb⟩; refine ⟨_, rfl, ?_⟩; have n0_ := Aside0.mk (Kd.R_below (rz_ ((Kd.R_mono (Kd.R_far (p := ⟨gb290, 4, none⟩) (Kd.R_far (p := ⟨gb290, 3, none⟩) (Kd.R_far (p := ⟨gb290, 2, none⟩) (Kd.R_types HO_291001.out BK290.out (by decide)) (fun _ hk => hk.2) (.string t304)) (fun _ hk => hk.2) (.int .u64 t310)) (fun _ hk => hk.2) (.string (t308.extract 1 t308.size))) (fun _ h_ => h_.1)))) hb); have n1_ := Aside0.mk (blk_below (g := gb289) (o := .cells #[.string x290000_3, .slice none 0 0, .string x290002_3, .int .u64 x290003_3, .string x290004_3] 30 (0, 0)) (by (with_reducible repeat (first | refine blk_drewN ?_ _ | refine blk_drew ?_ | refine blk_alloc ?_ _)); refine blk_far ?_ NB289_290.out _; (with_reducible repeat (first | refine blk_drewN ?_ _ | refine blk_drew ?_ | refine blk_alloc ?_ _)); refine blk_far ?_ NB289_290.out _; (with_reducible repeat (first | refine blk_drewN ?_ _ | refine blk_drew ?_ | refine blk_alloc ?_ _)); refine blk_far ?_ NB289_290.out _; (with_reducible repeat (first | refine blk_drewN ?_ _ | refine blk_drew ?_ | refine blk_alloc ?_ _)); exact BK289.out) hb); have n2_ := Aside0.mk (blk_below (g := gb290) (o := .cells #[.string t294, .slice Ao68 x291001_3.length co68, .string t304, .int .u64 t310, .string (t308.extract 1 t308.size)] 30 (0, 0)) (by (with_reducible repeat (first | refine blk_drewN ?_ _ | refine blk_drew ?_ | refine blk_alloc ?_ _)); refine blk_put (cs := #[.string t294, .slice Ao68 x291001_3.length co68, .string t304, .int .u64 t310, .string (⟨#[]⟩ : ByteArray)]) ?_ 4 _ rfl; (with_reducible repeat (first | refine blk_drewN ?_ _ | refine blk_drew ?_ | refine blk_alloc ?_ _)); refine blk_put (cs := #[.string t294, .slice Ao68 x291001_3.length co68, .string t304, .int .u64 0, .string (⟨#[]⟩ : ByteArray)]) ?_ 3 _ rfl; (with_reducible repeat (first | refine blk_drewN ?_ _ | refine blk_drew ?_ | refine blk_alloc ?_ _)); refine blk_put (cs := #[.string t294, .slice Ao68 x291001_3.length co68, .string (⟨#[]⟩ : ByteArray), .int .u64 0, .string (⟨#[]⟩ : ByteArray)]) ?_ 2 _ rfl; (with_reducible repeat (first | refine blk_drewN ?_ _ | refine blk_drew ?_ | refine blk_alloc ?_ _)); exact BK290.out) hb); have n3_ := Aside0.mk (below_step (bs2_ GE289.out GE290.out) hb); clear HO_291001; clear BK289; clear BK290; clear HB; have HO_291001 := n0_; have BK289 := n1_; have BK290 := n2_; have HB := n3_; clear n0_ n1_ n2_ n3_; (try clear hb); (try clear hb2); (try clear hk); (try clear hi); have hcz70_0 : w69.cell? ⟨gb289, 0, none⟩ = some (.string x290000_3) := (blk_cell BK289.out 0).trans rfl; have hcz70_1 : w69.cell? ⟨gb289, 1, none⟩ = some (.slice none 0 0) := (blk_cell BK289.out 1).trans rfl; have hcz70_2 : w69.cell? ⟨gb289, 2, none⟩ = some (.string x290002_3) := (blk_cell BK289.out 2).trans rfl; have hcz70_3 : w69.cell? ⟨gb289, 3, none⟩ = some (.int .u64 x290003_3) := (blk_cell BK289.out 3).trans rfl; have hcz70_4 : w69.cell? ⟨gb289, 4, none⟩ = some (.string x290004_3) := (blk_cell BK289.out 4).trans rfl; have hfz70_0 := blk_frozen BK289.out 0; have hfz70_1 := blk_frozen BK289.out 1; have hfz70_2 := blk_frozen BK289.out 2; have hfz70_3 := blk_frozen BK289.out 3; have hfz70_4 := blk_frozen BK289.out 4))
        refine bodyPost_ret (results_ct rfl _ _ gb289 30 #[.string (⟨#[]⟩ : ByteArray), .slice none 0 0, .string (⟨#[]⟩ : ByteArray), .int .u64 0, .string (⟨#[]⟩ : ByteArray)] (0, 0) _ rfl (by (with_reducible repeat (first | refine blk_drewN ?_ _ | refine blk_drew ?_ | refine blk_alloc ?_ _)); refine blk_put (cs := #[.string (⟨#[]⟩ : ByteArray), .slice none 0 0, .string (⟨#[]⟩ : ByteArray), .int .u64 0, .string x290004_3]) ?_ 4 _ rfl; (with_reducible repeat (first | refine blk_drewN ?_ _ | refine blk_drew ?_ | refine blk_alloc ?_ _)); refine blk_put (cs := #[.string (⟨#[]⟩ : ByteArray), .slice none 0 0, .string (⟨#[]⟩ : ByteArray), .int .u64 x290003_3, .string x290004_3]) ?_ 3 _ rfl; (with_reducible repeat (first | refine blk_drewN ?_ _ | refine blk_drew ?_ | refine blk_alloc ?_ _)); refine blk_put (cs := #[.string (⟨#[]⟩ : ByteArray), .slice none 0 0, .string x290002_3, .int .u64 x290003_3, .string x290004_3]) ?_ 2 _ rfl; (with_reducible repeat (first | refine blk_drewN ?_ _ | refine blk_drew ?_ | refine blk_alloc ?_ _)); refine blk_put (cs := #[.string (⟨#[]⟩ : ByteArray), .slice none 0 0, .string x290002_3, .int .u64 x290003_3, .string x290004_3]) ?_ 1 _ rfl; (with_reducible repeat (first | refine blk_drewN ?_ _ | refine blk_drew ?_ | refine blk_alloc ?_ _)); refine blk_put (cs := #[.string x290000_3, .slice none 0 0, .string x290002_3, .int .u64 x290003_3, .string x290004_3]) ?_ 0 _ rfl; (with_reducible repeat (first | refine blk_drewN ?_ _ | refine blk_drew ?_ | refine blk_alloc ?_ _)); exact BK289.out) Tryd.underlying30 rfl (by kernel_rfl)) rfl ?_
        exact ⟨_, xz_, nz_, bs2_ GE289.out GE290.out⟩
      · rw [if_neg c49] at H
        exact absurd H (by simp)

end Go.Proofs.YtnapcfpecpgdbaaDoor.M
