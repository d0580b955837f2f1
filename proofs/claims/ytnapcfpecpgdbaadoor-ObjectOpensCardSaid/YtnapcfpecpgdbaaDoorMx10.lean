/- The program's functions as plain functions, and that each call comes to what these tell; written by a program of this session, some contracts by hand. Conditions: none. -/
import Derived.Test.YtnapcfpecpgdbaaDoorMx0
import Derived.Test.YtnapcfpecpgdbaaDoorMx2
import Derived.Test.YtnapcfpecpgdbaaDoorMx8
import Derived.Test.YtnapcfpecpgdbaaDoorMx9
namespace Go.Proofs.YtnapcfpecpgdbaaDoor.M
open Go.RowKit Go.Proofs.YtnapcfpecpgdbaaDoorW.PrintWords Go.Proofs.YtnapcfpecpgdbaaDoorW.PrintLast Go.Proofs.YtnapcfpecpgdbaaDoorW.PrintMore
attribute [local go_sem] max2_int min2_int max_two min_two max_three min_three max_four min_four   -- for this text's walks alone
set_option linter.unusedVariables false
set_option linter.unusedSimpArgs false

/-! ### ob_GetCommit: function 6 -/
mutual
def ob_GetCommit.j0 : Nat → ByteArray → ByteArray → Bool → ByteArray → ByteArray → Int → ByteArray → ByteArray → ByteArray → Int → ByteArray → Option (ByteArray × List ByteArray × ByteArray × Int × ByteArray × Int)
 | 0, _, _, _, _, _, _, _, _, _, _, _ => none
 | k + 1, x7, x9, x41, x149000, x149002, x149003, x149004, x150000, x150002, x150003, x150004 => if x41 = true then (some (x149000, ([] : List ByteArray), x149002, x149003, x149004, 6)) else (ob_GetCommit.l0 k x7 x149000 x149002 x149003 x149004 x9 ([] : List ByteArray) x150002 x150003 x150004)
def ob_GetCommit.l0 : Nat → ByteArray → ByteArray → ByteArray → Int → ByteArray → ByteArray → List ByteArray → ByteArray → Int → ByteArray → Option (ByteArray × List ByteArray × ByteArray × Int × ByteArray × Int)
 | 0, _, _, _, _, _, _, _, _, _, _ => none
 | k + 1, x7, x149000, x149002, x149003, x149004, x150000, x150001, x150002, x150003, x150004 => (ob_line.f x7 (⟨#[112, 97, 114, 101, 110, 116]⟩ : ByteArray)).bind fun bt155 => (if bt155.2.2 = true then ((ob_idOf.f bt155.1).bind fun bt158 => (if bt158.2 = true then (if x150001.length < 8796093022208 then (ob_GetCommit.l0 k bt155.2.1 x149000 x149002 x149003 x149004 x150000 (x150001 ++ [bt158.1]) x150002 x150003 x150004) else (none)) else (some (x149000, ([] : List ByteArray), x149002, x149003, x149004, 6)))) else ((ob_line.f x7 (⟨#[97, 117, 116, 104, 111, 114]⟩ : ByteArray)).bind fun bt163 => ((ob_line.f bt163.2.1 (⟨#[116, 105, 109, 101]⟩ : ByteArray)).bind fun bt166 => ((strings_CutPrefix.f bt166.2.1 (⟨#[10]⟩ : ByteArray)).bind fun bt169 => ((code_Undec.f k bt166.1).bind fun bt171 => (if bt163.2.2 = true then (if bt166.2.2 = true then (if bt169.2 = true then (ob_GetCommit.j2 k bt163.1 bt169.1 bt171.1 (bt171.2 != 0) x149000 x149002 x149003 x149004 x150000 x150001 x150002 x150003 x150004) else (ob_GetCommit.j2 k bt163.1 bt169.1 bt171.1 true x149000 x149002 x149003 x149004 x150000 x150001 x150002 x150003 x150004)) else (ob_GetCommit.j2 k bt163.1 bt169.1 bt171.1 true x149000 x149002 x149003 x149004 x150000 x150001 x150002 x150003 x150004)) else (ob_GetCommit.j2 k bt163.1 bt169.1 bt171.1 true x149000 x149002 x149003 x149004 x150000 x150001 x150002 x150003 x150004)))))))
def ob_GetCommit.j2 : Nat → ByteArray → ByteArray → Int → Bool → ByteArray → ByteArray → Int → ByteArray → ByteArray → List ByteArray → ByteArray → Int → ByteArray → Option (ByteArray × List ByteArray × ByteArray × Int × ByteArray × Int)
 | 0, _, _, _, _, _, _, _, _, _, _, _, _, _ => none
 | k + 1, x16, x19, x21, x103, x149000, x149002, x149003, x149004, x150000, x150001, x150002, x150003, x150004 => if x103 = true then (some (x149000, ([] : List ByteArray), x149002, x149003, x149004, 6)) else ((ob_CheckCommit.f k x150000 x150001 x16 x21 x19).bind fun t173 => (if t173 = 0 then (some (x150000, x150001, x16, x21, x19, 0)) else (some (x149000, ([] : List ByteArray), x149002, x149003, x149004, t173))))
end
def ob_GetCommit.f (k : Nat) (a0 : ByteArray) : Option (ByteArray × List ByteArray × ByteArray × Int × ByteArray × Int) := (ob_line.f a0 (⟨#[116, 114, 101, 101]⟩ : ByteArray)).bind fun bt150 => ((ob_idOf.f bt150.1).bind fun bt153 => (if bt150.2.2 = true then (ob_GetCommit.j0 k bt150.2.1 bt153.1 (!bt153.2) (⟨#[]⟩ : ByteArray) (⟨#[]⟩ : ByteArray) 0 (⟨#[]⟩ : ByteArray) (⟨#[]⟩ : ByteArray) (⟨#[]⟩ : ByteArray) 0 (⟨#[]⟩ : ByteArray)) else (ob_GetCommit.j0 k bt150.2.1 bt153.1 true (⟨#[]⟩ : ByteArray) (⟨#[]⟩ : ByteArray) 0 (⟨#[]⟩ : ByteArray) (⟨#[]⟩ : ByteArray) (⟨#[]⟩ : ByteArray) 0 (⟨#[]⟩ : ByteArray))))
theorem ob_GetCommit.mono_l : ∀ k, (∀ y0 y1 y2 y3 y4 y5 y6 y7 y8 y9 y10, LeO (ob_GetCommit.j0 k y0 y1 y2 y3 y4 y5 y6 y7 y8 y9 y10) (ob_GetCommit.j0 (k + 1) y0 y1 y2 y3 y4 y5 y6 y7 y8 y9 y10)) ∧ (∀ y0 y1 y2 y3 y4 y5 y6 y7 y8 y9, LeO (ob_GetCommit.l0 k y0 y1 y2 y3 y4 y5 y6 y7 y8 y9) (ob_GetCommit.l0 (k + 1) y0 y1 y2 y3 y4 y5 y6 y7 y8 y9)) ∧ (∀ y0 y1 y2 y3 y4 y5 y6 y7 y8 y9 y10 y11 y12, LeO (ob_GetCommit.j2 k y0 y1 y2 y3 y4 y5 y6 y7 y8 y9 y10 y11 y12) (ob_GetCommit.j2 (k + 1) y0 y1 y2 y3 y4 y5 y6 y7 y8 y9 y10 y11 y12))
 | 0 => ⟨fun _ _ _ _ _ _ _ _ _ _ _ r h => by simp [ob_GetCommit.j0] at h, fun _ _ _ _ _ _ _ _ _ _ r h => by simp [ob_GetCommit.l0] at h, fun _ _ _ _ _ _ _ _ _ _ _ _ _ r h => by simp [ob_GetCommit.j2] at h⟩
 | k + 1 => by
  obtain ⟨ih0, ih1, ih2⟩ := ob_GetCommit.mono_l k
  refine ⟨?_, ?_, ?_⟩
  all_goals (intros; first | unfold ob_GetCommit.j0 | unfold ob_GetCommit.l0 | unfold ob_GetCommit.j2)
  all_goals repeat' with_reducible first | exact ih0 _ _ _ _ _ _ _ _ _ _ _ | exact ih1 _ _ _ _ _ _ _ _ _ _ | exact ih2 _ _ _ _ _ _ _ _ _ _ _ _ _ | exact code_Undec.mono _ _ | exact ob_CheckCommit.mono _ _ _ _ _ _ | exact LeO.refl _ | exact LeO.none _ | refine LeO.ite ?_ ?_ | refine LeO.bind ?_ (fun _ => ?_)
theorem ob_GetCommit.mono : ∀ a0 k, LeO (ob_GetCommit.f k a0) (ob_GetCommit.f (k + 1) a0) := by
 intro a0 k
 obtain ⟨ih0, ih1, ih2⟩ := ob_GetCommit.mono_l k
 unfold ob_GetCommit.f
 repeat' with_reducible first | exact ih0 _ _ _ _ _ _ _ _ _ _ _ | exact ih1 _ _ _ _ _ _ _ _ _ _ | exact ih2 _ _ _ _ _ _ _ _ _ _ _ _ _ | exact code_Undec.mono _ _ | exact ob_CheckCommit.mono _ _ _ _ _ _ | exact LeO.refl _ | exact LeO.none _ | refine LeO.ite ?_ ?_ | refine LeO.bind ?_ (fun _ => ?_)
set_option maxHeartbeats 8000000 in
set_option maxRecDepth 100000 in
theorem ob_GetCommit.calls (k : Nat) (a0 : ByteArray) (r1 : ByteArray) (r2 : List ByteArray) (r3 : ByteArray) (r4 : Int) (r5 : ByteArray) (r6 : Int) (w : World) (h : ob_GetCommit.f k a0 = some (r1, r2, r3, r4, r5, r6)) :
 Calls Tryd.prog 6 #[.string a0] w fun e w' => ∃ v1_ : Value, e = .returned (.tuple #[.agg #[.string r1, v1_, .string r3, .int .u64 r4, .string r5], .int .i64 r6]) ∧ Kd.R Kd.string 9 w' w.heap.size (fun _ => True) v1_ r2 ∧ Below w.heap.size w w' := by
 have hu25 := Tryd.underlying25
 have HB := Aside0.mk (Below.refl w.heap.size w)
 have H : ((ob_line.f a0 (⟨#[116, 114, 101, 101]⟩ : ByteArray)).bind fun bt150 => ((ob_idOf.f bt150.1).bind fun bt153 => (if bt150.2.2 = true then (ob_GetCommit.j0 k bt150.2.1 bt153.1 (!bt153.2) (⟨#[]⟩ : ByteArray) (⟨#[]⟩ : ByteArray) 0 (⟨#[]⟩ : ByteArray) (⟨#[]⟩ : ByteArray) (⟨#[]⟩ : ByteArray) 0 (⟨#[]⟩ : ByteArray)) else (ob_GetCommit.j0 k bt150.2.1 bt153.1 true (⟨#[]⟩ : ByteArray) (⟨#[]⟩ : ByteArray) 0 (⟨#[]⟩ : ByteArray) (⟨#[]⟩ : ByteArray) (⟨#[]⟩ : ByteArray) 0 (⟨#[]⟩ : ByteArray))))) = some (r1, r2, r3, r4, r5, r6) := h
 clear h
 replace H := Option.bind_eq_some_iff.mp H
 obtain ⟨⟨t150, t151, t152⟩, A20, H⟩ := H
 try dsimp only at H
 have A2 := Aside0.mk A20
 clear A20
 replace H := Option.bind_eq_some_iff.mp H
 obtain ⟨⟨t153, t154⟩, A30, H⟩ := H
 try dsimp only at H
 have A3 := Aside0.mk A30
 clear A30
 have HC4 := Aside0.mk H
 clear H
 go_enter Tryd.func6, Tryd.ntmps6
 go_upto_region 5 with (first | ((with_reducible refine gate_dst (N := 2) rfl ?_); refine box_event ?hg (N := 2) ?hd (cs := #[.string (⟨#[]⟩ : ByteArray), .slice none 0 0, .string (⟨#[]⟩ : ByteArray), .int .u64 0, .string (⟨#[]⟩ : ByteArray)]) (t := 25) ?hr ?_; (case hd => rfl); (case hg => rfl); (case hr => first | (go_simp; done) | (go_simp; rfl)); intro gb147 hg w5 hbox hb; have n0_ := Aside0.mk (below_step bz_ hb); have n1_ := Aside0.mk (hbox); have n2_ := Aside0.mk ((by rw [hg]; exact (below_size bz_) : w.heap.size ≤ gb147)); have n3_ := Aside0.mk ((by rw [hg]; exact (below_size bz_) : w.heap.size ≤ gb147)); clear HB; have HB := n0_; have BK147 := n1_; have GW147 := n2_; have GE147 := n3_; clear n0_ n1_ n2_ n3_; clear hb hbox hg) | ((with_reducible refine gate_dst (N := 4) rfl ?_); refine box_event ?hg (N := 4) ?hd (cs := #[.string (⟨#[]⟩ : ByteArray), .slice none 0 0, .string (⟨#[]⟩ : ByteArray), .int .u64 0, .string (⟨#[]⟩ : ByteArray)]) (t := 25) ?hr ?_; (case hd => rfl); (case hg => rfl); (case hr => first | (go_simp; done) | (go_simp; rfl)); intro gb148 hg w6 hbox hb; have n0_ := Aside0.mk (blk_below (g := gb147) (o := .cells #[.string (⟨#[]⟩ : ByteArray), .slice none 0 0, .string (⟨#[]⟩ : ByteArray), .int .u64 0, .string (⟨#[]⟩ : ByteArray)] 25 (0, 0)) (kz_ BK147.out) hb); have n1_ := Aside0.mk (below_step (bs1_ GE147.out) hb); have n2_ := Aside0.mk (hbox); have n3_ := Aside0.mk ((by rw [hg]; exact (below_size (bs1_ GE147.out)) : w.heap.size ≤ gb148)); have n4_ := Aside0.mk ((by rw [hg]; exact (below_size (bs1_ GE147.out)) : w.heap.size ≤ gb148)); have n5_ := Aside0.mk ((by rw [hg]; exact Nat.ne_of_lt (blk_lt (g := gb147) (o := .cells #[.string (⟨#[]⟩ : ByteArray), .slice none 0 0, .string (⟨#[]⟩ : ByteArray), .int .u64 0, .string (⟨#[]⟩ : ByteArray)] 25 (0, 0)) (kz_ BK147.out)) : gb147 ≠ gb148)); have n6_ := Aside0.mk ((by rw [hg]; exact Nat.ne_of_gt (blk_lt (g := gb147) (o := .cells #[.string (⟨#[]⟩ : ByteArray), .slice none 0 0, .string (⟨#[]⟩ : ByteArray), .int .u64 0, .string (⟨#[]⟩ : ByteArray)] 25 (0, 0)) (kz_ BK147.out)) : gb148 ≠ gb147)); clear BK147; clear HB; have BK147 := n0_; have HB := n1_; have BK148 := n2_; have GW148 := n3_; have GE148 := n4_; have NB147_148 := n5_; have NB148_147 := n6_; clear n0_ n1_ n2_ n3_ n4_ n5_ n6_; clear hb hbox hg; have hnb7 := NB148_147.out; have hnc7 := NB147_148.out; have hcz8_0 : w6.cell? ⟨gb148, 0, none⟩ = some (.string (⟨#[]⟩ : ByteArray)) := (blk_cell BK148.out 0).trans rfl; have hcz8_1 : w6.cell? ⟨gb148, 1, none⟩ = some (.slice none 0 0) := (blk_cell BK148.out 1).trans rfl; have hcz8_2 : w6.cell? ⟨gb148, 2, none⟩ = some (.string (⟨#[]⟩ : ByteArray)) := (blk_cell BK148.out 2).trans rfl; have hcz8_3 : w6.cell? ⟨gb148, 3, none⟩ = some (.int .u64 0) := (blk_cell BK148.out 3).trans rfl; have hcz8_4 : w6.cell? ⟨gb148, 4, none⟩ = some (.string (⟨#[]⟩ : ByteArray)) := (blk_cell BK148.out 4).trans rfl; have hfz8_0 := blk_frozen BK148.out 0; have hfz8_1 := blk_frozen BK148.out 1; have hfz8_2 := blk_frozen BK148.out 2; have hfz8_3 := blk_frozen BK148.out 3; have hfz8_4 := blk_frozen BK148.out 4) | ((with_reducible refine gate_dst (N := 5) rfl ?_); refine box_event ?hg (N := 5) ?hd (cs := #[.string (⟨#[]⟩ : ByteArray), .slice none 0 0, .string (⟨#[]⟩ : ByteArray), .int .u64 0, .string (⟨#[]⟩ : ByteArray)]) (t := 25) ?hr ?_; (case hd => rfl); (case hg => rfl); (case hr => first | (go_simp; done) | (go_simp; rfl)); intro gb149 hg w9 hbox hb; have n0_ := Aside0.mk (blk_below (g := gb147) (o := .cells #[.string (⟨#[]⟩ : ByteArray), .slice none 0 0, .string (⟨#[]⟩ : ByteArray), .int .u64 0, .string (⟨#[]⟩ : ByteArray)] 25 (0, 0)) (by (with_reducible repeat (first | refine blk_drewN ?_ _ | refine blk_drew ?_ | refine blk_alloc ?_ _)); refine blk_far ?_ NB147_148.out _; (with_reducible repeat (first | refine blk_drewN ?_ _ | refine blk_drew ?_ | refine blk_alloc ?_ _)); refine blk_far ?_ NB147_148.out _; (with_reducible repeat (first | refine blk_drewN ?_ _ | refine blk_drew ?_ | refine blk_alloc ?_ _)); refine blk_far ?_ NB147_148.out _; (with_reducible repeat (first | refine blk_drewN ?_ _ | refine blk_drew ?_ | refine blk_alloc ?_ _)); refine blk_far ?_ NB147_148.out _; (with_reducible repeat (first | refine blk_drewN ?_ _ | refine blk_drew ?_ | refine blk_alloc ?_ _)); refine blk_far ?_ NB147_148.out _; (with_reducible repeat (first | refine blk_drewN ?_ _ | refine blk_drew ?_ | refine blk_alloc ?_ _)); exact BK147.out) hb); have n1_ := Aside0.mk (blk_below (g := gb148) (o := .cells #[.string (⟨#[]⟩ : ByteArray), .slice none 0 0, .string (⟨#[]⟩ : ByteArray), .int .u64 0, .string (⟨#[]⟩ : ByteArray)] 25 (0, 0)) (by (with_reducible repeat (first | refine blk_drewN ?_ _ | refine blk_drew ?_ | refine blk_alloc ?_ _)); refine blk_put (cs := #[.string (⟨#[]⟩ : ByteArray), .slice none 0 0, .string (⟨#[]⟩ : ByteArray), .int .u64 0, .string (⟨#[]⟩ : ByteArray)]) ?_ 4 _ rfl; (with_reducible repeat (first | refine blk_drewN ?_ _ | refine blk_drew ?_ | refine blk_alloc ?_ _)); refine blk_put (cs := #[.string (⟨#[]⟩ : ByteArray), .slice none 0 0, .string (⟨#[]⟩ : ByteArray), .int .u64 0, .string (⟨#[]⟩ : ByteArray)]) ?_ 3 _ rfl; (with_reducible repeat (first | refine blk_drewN ?_ _ | refine blk_drew ?_ | refine blk_alloc ?_ _)); refine blk_put (cs := #[.string (⟨#[]⟩ : ByteArray), .slice none 0 0, .string (⟨#[]⟩ : ByteArray), .int .u64 0, .string (⟨#[]⟩ : ByteArray)]) ?_ 2 _ rfl; (with_reducible repeat (first | refine blk_drewN ?_ _ | refine blk_drew ?_ | refine blk_alloc ?_ _)); refine blk_put (cs := #[.string (⟨#[]⟩ : ByteArray), .slice none 0 0, .string (⟨#[]⟩ : ByteArray), .int .u64 0, .string (⟨#[]⟩ : ByteArray)]) ?_ 1 _ rfl; (with_reducible repeat (first | refine blk_drewN ?_ _ | refine blk_drew ?_ | refine blk_alloc ?_ _)); refine blk_put (cs := #[.string (⟨#[]⟩ : ByteArray), .slice none 0 0, .string (⟨#[]⟩ : ByteArray), .int .u64 0, .string (⟨#[]⟩ : ByteArray)]) ?_ 0 _ rfl; (with_reducible repeat (first | refine blk_drewN ?_ _ | refine blk_drew ?_ | refine blk_alloc ?_ _)); exact BK148.out) hb); have n2_ := Aside0.mk (below_step (bs2_ GE147.out GE148.out) hb); have n3_ := Aside0.mk (hbox); have n4_ := Aside0.mk ((by rw [hg]; exact (below_size (bs2_ GE147.out GE148.out)) : w.heap.size ≤ gb149)); have n5_ := Aside0.mk ((by rw [hg]; exact (below_size (bs2_ GE147.out GE148.out)) : w.heap.size ≤ gb149)); have n6_ := Aside0.mk ((by rw [hg]; exact Nat.ne_of_lt (blk_lt (g := gb147) (o := .cells #[.string (⟨#[]⟩ : ByteArray), .slice none 0 0, .string (⟨#[]⟩ : ByteArray), .int .u64 0, .string (⟨#[]⟩ : ByteArray)] 25 (0, 0)) (by (with_reducible repeat (first | refine blk_drewN ?_ _ | refine blk_drew ?_ | refine blk_alloc ?_ _)); refine blk_far ?_ NB147_148.out _; (with_reducible repeat (first | refine blk_drewN ?_ _ | refine blk_drew ?_ | refine blk_alloc ?_ _)); refine blk_far ?_ NB147_148.out _; (with_reducible repeat (first | refine blk_drewN ?_ _ | refine blk_drew ?_ | refine blk_alloc ?_ _)); refine blk_far ?_ NB147_148.out _; (with_reducible repeat (first | refine blk_drewN ?_ _ | refine blk_drew ?_ | refine blk_alloc ?_ _)); refine blk_far ?_ NB147_148.out _; (with_reducible repeat (first | refine blk_drewN ?_ _ | refine blk_drew ?_ | refine blk_alloc ?_ _)); refine blk_far ?_ NB147_148.out _; (with_reducible repeat (first | refine blk_drewN ?_ _ | refine blk_drew ?_ | refine blk_alloc ?_ _)); exact BK147.out)) : gb147 ≠ gb149)); have n7_ := Aside0.mk ((by rw [hg]; exact Nat.ne_of_gt (blk_lt (g := gb147) (o := .cells #[.string (⟨#[]⟩ : ByteArray), .slice none 0 0, .string (⟨#[]⟩ : ByteArray), .int .u64 0, .string (⟨#[]⟩ : ByteArray)] 25 (0, 0)) (by (with_reducible repeat (first | refine blk_drewN ?_ _ | refine blk_drew ?_ | refine blk_alloc ?_ _)); refine blk_far ?_ NB147_148.out _; (with_reducible repeat (first | refine blk_drewN ?_ _ | refine blk_drew ?_ | refine blk_alloc ?_ _)); refine blk_far ?_ NB147_148.out _; (with_reducible repeat (first | refine blk_drewN ?_ _ | refine blk_drew ?_ | refine blk_alloc ?_ _)); refine blk_far ?_ NB147_148.out _; (with_reducible repeat (first | refine blk_drewN ?_ _ | refine blk_drew ?_ | refine blk_alloc ?_ _)); refine blk_far ?_ NB147_148.out _; (with_reducible repeat (first | refine blk_drewN ?_ _ | refine blk_drew ?_ | refine blk_alloc ?_ _)); refine blk_far ?_ NB147_148.out _; (with_reducible repeat (first | refine blk_drewN ?_ _ | refine blk_drew ?_ | refine blk_alloc ?_ _)); exact BK147.out)) : gb149 ≠ gb147)); have n8_ := Aside0.mk ((by rw [hg]; exact Nat.ne_of_lt (blk_lt (g := gb148) (o := .cells #[.string (⟨#[]⟩ : ByteArray), .slice none 0 0, .string (⟨#[]⟩ : ByteArray), .int .u64 0, .string (⟨#[]⟩ : ByteArray)] 25 (0, 0)) (by (with_reducible repeat (first | refine blk_drewN ?_ _ | refine blk_drew ?_ | refine blk_alloc ?_ _)); refine blk_put (cs := #[.string (⟨#[]⟩ : ByteArray), .slice none 0 0, .string (⟨#[]⟩ : ByteArray), .int .u64 0, .string (⟨#[]⟩ : ByteArray)]) ?_ 4 _ rfl; (with_reducible repeat (first | refine blk_drewN ?_ _ | refine blk_drew ?_ | refine blk_alloc ?_ _)); refine blk_put (cs := #[.string (⟨#[]⟩ : ByteArray), .slice none 0 0, .string (⟨#[]⟩ : ByteArray), .int .u64 0, .string (⟨#[]⟩ : ByteArray)]) ?_ 3 _ rfl; (with_reducible repeat (first | refine blk_drewN ?_ _ | refine blk_drew ?_ | refine blk_alloc ?_ _)); refine blk_put (cs := #[.string (⟨#[]⟩ : ByteArray), .slice none 0 0, .string (⟨#[]⟩ : ByteArray), .int .u64 0, .string (⟨#[]⟩ : ByteArray)]) ?_ 2 _ rfl; (with_reducible repeat (first | refine blk_drewN ?_ _ | refine blk_drew ?_ | refine blk_alloc ?_ _)); refine blk_put (cs := #[.string (⟨#[]⟩ : ByteArray), .slice none 0 0, .string (⟨#[]⟩ : ByteArray), .int .u64 0, .string (⟨#[]⟩ : ByteArray)]) ?_ 1 _ rfl; (with_reducible repeat (first | refine blk_drewN ?_ _ | refine blk_drew ?_ | refine blk_alloc ?_ _)); refine blk_put (cs := #[.string (⟨#[]⟩ : ByteArray), .slice none 0 0, .string (⟨#[]⟩ : ByteArray), .int .u64 0, .string (⟨#[]⟩ : ByteArray)]) ?_ 0 _ rfl; (with_reducible repeat (first | refine blk_drewN ?_ _ | refine blk_drew ?_ | refine blk_alloc ?_ _)); exact BK148.out)) : gb148 ≠ gb149)); have n9_ := Aside0.mk ((by rw [hg]; exact Nat.ne_of_gt (blk_lt (g := gb148) (o := .cells #[.string (⟨#[]⟩ : ByteArray), .slice none 0 0, .string (⟨#[]⟩ : ByteArray), .int .u64 0, .string (⟨#[]⟩ : ByteArray)] 25 (0, 0)) (by (with_reducible repeat (first | refine blk_drewN ?_ _ | refine blk_drew ?_ | refine blk_alloc ?_ _)); refine blk_put (cs := #[.string (⟨#[]⟩ : ByteArray), .slice none 0 0, .string (⟨#[]⟩ : ByteArray), .int .u64 0, .string (⟨#[]⟩ : ByteArray)]) ?_ 4 _ rfl; (with_reducible repeat (first | refine blk_drewN ?_ _ | refine blk_drew ?_ | refine blk_alloc ?_ _)); refine blk_put (cs := #[.string (⟨#[]⟩ : ByteArray), .slice none 0 0, .string (⟨#[]⟩ : ByteArray), .int .u64 0, .string (⟨#[]⟩ : ByteArray)]) ?_ 3 _ rfl; (with_reducible repeat (first | refine blk_drewN ?_ _ | refine blk_drew ?_ | refine blk_alloc ?_ _)); refine blk_put (cs := #[.string (⟨#[]⟩ : ByteArray), .slice none 0 0, .string (⟨#[]⟩ : ByteArray), .int .u64 0, .string (⟨#[]⟩ : ByteArray)]) ?_ 2 _ rfl; (with_reducible repeat (first | refine blk_drewN ?_ _ | refine blk_drew ?_ | refine blk_alloc ?_ _)); refine blk_put (cs := #[.string (⟨#[]⟩ : ByteArray), .slice none 0 0, .string (⟨#[]⟩ : ByteArray), .int .u64 0, .string (⟨#[]⟩ : ByteArray)]) ?_ 1 _ rfl; (with_reducible repeat (first | refine blk_drewN ?_ _ | refine blk_drew ?_ | refine blk_alloc ?_ _)); refine blk_put (cs := #[.string (⟨#[]⟩ : ByteArray), .slice none 0 0, .string (⟨#[]⟩ : ByteArray), .int .u64 0, .string (⟨#[]⟩ : ByteArray)]) ?_ 0 _ rfl; (with_reducible repeat (first | refine blk_drewN ?_ _ | refine blk_drew ?_ | refine blk_alloc ?_ _)); exact BK148.out)) : gb149 ≠ gb148)); clear BK147; clear BK148; clear HB; have BK147 := n0_; have BK148 := n1_; have HB := n2_; have BK149 := n3_; have GW149 := n4_; have GE149 := n5_; have NB147_149 := n6_; have NB149_147 := n7_; have NB148_149 := n8_; have NB149_148 := n9_; clear n0_ n1_ n2_ n3_ n4_ n5_ n6_ n7_ n8_ n9_; clear hb hbox hg) | ((with_reducible refine gate_callee (f := 20) rfl ?_); refine goesM_ (some 27) Tryd.func20 #[.string a0, .string (⟨#[116, 114, 101, 101]⟩ : ByteArray)] ?_; (with_reducible refine (ob_line.calls a0 (⟨#[116, 114, 101, 101]⟩ : ByteArray) t150 t151 t152 _ A2.out).mono ?_); rintro e w' ⟨rfl, ⟨nd, rfl⟩⟩; refine ⟨_, rfl, ?_⟩) | ((with_reducible refine gate_callee (f := 21) rfl ?_); refine goesM_ (some 33) Tryd.func21 #[.string t150] ?_; (with_reducible refine (ob_idOf.calls t150 t153 t154 _ A3.out).mono ?_); rintro e w10 ⟨rfl, hb⟩; refine ⟨_, rfl, ?_⟩; have n0_ := Aside0.mk (blk_below (g := gb147) (o := .cells #[.string (⟨#[]⟩ : ByteArray), .slice none 0 0, .string (⟨#[]⟩ : ByteArray), .int .u64 0, .string (⟨#[]⟩ : ByteArray)] 25 (0, 0)) (kz_ BK147.out) hb); have n1_ := Aside0.mk (blk_below (g := gb148) (o := .cells #[.string (⟨#[]⟩ : ByteArray), .slice none 0 0, .string (⟨#[]⟩ : ByteArray), .int .u64 0, .string (⟨#[]⟩ : ByteArray)] 25 (0, 0)) (kz_ BK148.out) hb); have n2_ := Aside0.mk (blk_below (g := gb149) (o := .cells #[.string (⟨#[]⟩ : ByteArray), .slice none 0 0, .string (⟨#[]⟩ : ByteArray), .int .u64 0, .string (⟨#[]⟩ : ByteArray)] 25 (0, 0)) (kz_ BK149.out) hb); have n3_ := Aside0.mk (below_step (bs3_ GE147.out GE148.out GE149.out) hb); clear BK147; clear BK148; clear BK149; clear HB; have BK147 := n0_; have BK148 := n1_; have BK149 := n2_; have HB := n3_; clear n0_ n1_ n2_ n3_; (try clear hb); (try clear hb2); (try clear hk); (try clear hi)))
 (try simp only [Act.put, List.setIfInBounds_toArray, List.set_cons_zero, List.set_cons_succ])
 go_cut [41] (fun v41 wc => ∃ (kq : Nat) (x41_3 : Bool), v41 = .bool x41_3 ∧ Aside0 (ob_GetCommit.j0 kq t151 t153 x41_3 (⟨#[]⟩ : ByteArray) (⟨#[]⟩ : ByteArray) 0 (⟨#[]⟩ : ByteArray) (⟨#[]⟩ : ByteArray) (⟨#[]⟩ : ByteArray) 0 (⟨#[]⟩ : ByteArray) = some (r1, r2, r3, r4, r5, r6)) ∧ Aside0 (kq ≤ k) ∧ Aside0 (wc.heap[gb147]? = some (.cells #[.string (⟨#[]⟩ : ByteArray), (.slice none 0 0), .string (⟨#[]⟩ : ByteArray), .int .u64 0, .string (⟨#[]⟩ : ByteArray)] 25 (0, 0))) ∧ Aside0 (wc.heap[gb148]? = some (.cells #[.string (⟨#[]⟩ : ByteArray), (.slice none 0 0), .string (⟨#[]⟩ : ByteArray), .int .u64 0, .string (⟨#[]⟩ : ByteArray)] 25 (0, 0))) ∧ Aside0 (wc.heap[gb149]? = some (.cells #[.string (⟨#[]⟩ : ByteArray), (.slice none 0 0), .string (⟨#[]⟩ : ByteArray), .int .u64 0, .string (⟨#[]⟩ : ByteArray)] 25 (0, 0))) ∧ Aside0 (Below w.heap.size w wc))
 case first =>
  have H := HC4.out
  clear HC4
  by_cases c11 : t152 = true
  · subst c11
    have H1 := H
    rw [if_pos rfl] at H1
    clear H
    have H := H1
    clear H1
    have H' := Aside0.mk H
    clear H
    go_wp2
    go_meet
    case rel => exact ⟨_, (!t154), ez_, H', ⟨by first | omega | exact Nat.le_refl _⟩, ⟨kz_ BK147.out⟩, ⟨kz_ BK148.out⟩, ⟨kz_ BK149.out⟩, ⟨bs3_ GE147.out GE148.out GE149.out⟩⟩
  · replace c11 := Bool.eq_false_iff.mpr c11
    subst c11
    have H1 := H
    rw [if_neg (show ¬ (false = true) by decide)] at H1
    clear H
    have H := H1
    clear H1
    have H' := Aside0.mk H
    clear H
    go_wp2
    go_meet
    case rel => exact ⟨_, (true), ez_, H', ⟨by first | omega | exact Nat.le_refl _⟩, ⟨kz_ BK147.out⟩, ⟨kz_ BK148.out⟩, ⟨kz_ BK149.out⟩, ⟨bs3_ GE147.out GE148.out GE149.out⟩⟩
 case rest =>
  clear HC4
  try clear c1
  try clear c2
  try clear p2
  try clear c6
  try clear c7
  try clear c11
  try clear hcz8_0
  try clear hcz8_1
  try clear hcz8_2
  try clear hcz8_3
  try clear hcz8_4
  try clear hfz8_0
  try clear hfz8_1
  try clear hfz8_2
  try clear hfz8_3
  try clear hfz8_4
  obtain ⟨kq, x41_3, rfl, HA, HJ3, BK147, BK148, BK149, HB⟩ := hcut
  cases kq with
  | zero => exact absurd HA.out (by simp [ob_GetCommit.j0])
  | succ kj3 =>
   have H := HA.out
   clear HA
   simp only [ob_GetCommit.j0] at H
   by_cases c12 : x41_3 = true
   ·
    subst c12
    have H1 := H
    rw [if_pos rfl] at H1
    clear H
    have H := H1
    clear H1
    simp only [Option.some.injEq, Prod.mk.injEq] at H
    obtain ⟨rfl, rfl, rfl, rfl, rfl, rfl⟩ := H
    have hnb13 := NB148_147.out
    have hnc13 := NB147_148.out
    have hnb14 := NB148_149.out
    have hnc14 := NB149_148.out
    have hcz15_0 : wc.cell? ⟨gb148, 0, none⟩ = some (.string (⟨#[]⟩ : ByteArray)) := (blk_cell BK148.out 0).trans rfl
    have hcz15_1 : wc.cell? ⟨gb148, 1, none⟩ = some (.slice none 0 0) := (blk_cell BK148.out 1).trans rfl
    have hcz15_2 : wc.cell? ⟨gb148, 2, none⟩ = some (.string (⟨#[]⟩ : ByteArray)) := (blk_cell BK148.out 2).trans rfl
    have hcz15_3 : wc.cell? ⟨gb148, 3, none⟩ = some (.int .u64 0) := (blk_cell BK148.out 3).trans rfl
    have hcz15_4 : wc.cell? ⟨gb148, 4, none⟩ = some (.string (⟨#[]⟩ : ByteArray)) := (blk_cell BK148.out 4).trans rfl
    have hfz15_0 := blk_frozen BK148.out 0
    have hfz15_1 := blk_frozen BK148.out 1
    have hfz15_2 := blk_frozen BK148.out 2
    have hfz15_3 := blk_frozen BK148.out 3
    have hfz15_4 := blk_frozen BK148.out 4
    have hnb16 := NB147_149.out
    have hnc16 := NB149_147.out
    have hcz17_0 : wc.cell? ⟨gb147, 0, none⟩ = some (.string (⟨#[]⟩ : ByteArray)) := (blk_cell BK147.out 0).trans rfl
    have hcz17_1 : wc.cell? ⟨gb147, 1, none⟩ = some (.slice none 0 0) := (blk_cell BK147.out 1).trans rfl
    have hcz17_2 : wc.cell? ⟨gb147, 2, none⟩ = some (.string (⟨#[]⟩ : ByteArray)) := (blk_cell BK147.out 2).trans rfl
    have hcz17_3 : wc.cell? ⟨gb147, 3, none⟩ = some (.int .u64 0) := (blk_cell BK147.out 3).trans rfl
    have hcz17_4 : wc.cell? ⟨gb147, 4, none⟩ = some (.string (⟨#[]⟩ : ByteArray)) := (blk_cell BK147.out 4).trans rfl
    have hfz17_0 := blk_frozen BK147.out 0
    have hfz17_1 := blk_frozen BK147.out 1
    have hfz17_2 := blk_frozen BK147.out 2
    have hfz17_3 := blk_frozen BK147.out 3
    have hfz17_4 := blk_frozen BK147.out 4
    go_wp2
    refine bodyPost_ret (results_ct rfl _ _ gb147 25 #[.string (⟨#[]⟩ : ByteArray), .slice none 0 0, .string (⟨#[]⟩ : ByteArray), .int .u64 0, .string (⟨#[]⟩ : ByteArray)] (0, 0) _ rfl (by (with_reducible repeat (first | refine blk_drewN ?_ _ | refine blk_drew ?_ | refine blk_alloc ?_ _)); refine blk_put (cs := #[.string (⟨#[]⟩ : ByteArray), .slice none 0 0, .string (⟨#[]⟩ : ByteArray), .int .u64 0, .string (⟨#[]⟩ : ByteArray)]) ?_ 4 _ rfl; (with_reducible repeat (first | refine blk_drewN ?_ _ | refine blk_drew ?_ | refine blk_alloc ?_ _)); refine blk_put (cs := #[.string (⟨#[]⟩ : ByteArray), .slice none 0 0, .string (⟨#[]⟩ : ByteArray), .int .u64 0, .string (⟨#[]⟩ : ByteArray)]) ?_ 3 _ rfl; (with_reducible repeat (first | refine blk_drewN ?_ _ | refine blk_drew ?_ | refine blk_alloc ?_ _)); refine blk_put (cs := #[.string (⟨#[]⟩ : ByteArray), .slice none 0 0, .string (⟨#[]⟩ : ByteArray), .int .u64 0, .string (⟨#[]⟩ : ByteArray)]) ?_ 2 _ rfl; (with_reducible repeat (first | refine blk_drewN ?_ _ | refine blk_drew ?_ | refine blk_alloc ?_ _)); refine blk_put (cs := #[.string (⟨#[]⟩ : ByteArray), .slice none 0 0, .string (⟨#[]⟩ : ByteArray), .int .u64 0, .string (⟨#[]⟩ : ByteArray)]) ?_ 1 _ rfl; (with_reducible repeat (first | refine blk_drewN ?_ _ | refine blk_drew ?_ | refine blk_alloc ?_ _)); refine blk_put (cs := #[.string (⟨#[]⟩ : ByteArray), .slice none 0 0, .string (⟨#[]⟩ : ByteArray), .int .u64 0, .string (⟨#[]⟩ : ByteArray)]) ?_ 0 _ rfl; (with_reducible repeat (first | refine blk_drewN ?_ _ | refine blk_drew ?_ | refine blk_alloc ?_ _)); exact BK147.out) Tryd.underlying25 rfl (by kernel_rfl)) rfl ?_
    exact ⟨_, xz_, nz_, bs3_ GE147.out GE148.out GE149.out⟩
   ·
    replace c12 := Bool.eq_false_iff.mpr c12
    subst c12
    have H1 := H
    rw [if_neg (show ¬ (false = true) by decide)] at H1
    clear H
    have H := H1
    clear H1
    have H' := Aside0.mk H
    clear H
    have hnb18 := NB149_147.out
    have hnc18 := NB147_149.out
    have hnb19 := NB149_148.out
    have hnc19 := NB148_149.out
    have hcz20_0 : wc.cell? ⟨gb149, 0, none⟩ = some (.string (⟨#[]⟩ : ByteArray)) := (blk_cell BK149.out 0).trans rfl
    have hcz20_1 : wc.cell? ⟨gb149, 1, none⟩ = some (.slice none 0 0) := (blk_cell BK149.out 1).trans rfl
    have hcz20_2 : wc.cell? ⟨gb149, 2, none⟩ = some (.string (⟨#[]⟩ : ByteArray)) := (blk_cell BK149.out 2).trans rfl
    have hcz20_3 : wc.cell? ⟨gb149, 3, none⟩ = some (.int .u64 0) := (blk_cell BK149.out 3).trans rfl
    have hcz20_4 : wc.cell? ⟨gb149, 4, none⟩ = some (.string (⟨#[]⟩ : ByteArray)) := (blk_cell BK149.out 4).trans rfl
    have hfz20_0 := blk_frozen BK149.out 0
    have hfz20_1 := blk_frozen BK149.out 1
    have hfz20_2 := blk_frozen BK149.out 2
    have hfz20_3 := blk_frozen BK149.out 3
    have hfz20_4 := blk_frozen BK149.out 4
    go_wp2
    go_loopg [7] kj3 (fun kq v7 w' => ∃ (x7_2 : ByteArray) (x148000_2 : ByteArray) (x148002_2 : ByteArray) (x148003_2 : Int) (x148004_2 : ByteArray) (x150001_2 : List ByteArray) (u150001 : Value), v7 = .string x7_2 ∧ Aside0 (ob_GetCommit.l0 kq x7_2 (⟨#[]⟩ : ByteArray) (⟨#[]⟩ : ByteArray) 0 (⟨#[]⟩ : ByteArray) t153 x150001_2 (⟨#[]⟩ : ByteArray) 0 (⟨#[]⟩ : ByteArray) = some (r1, r2, r3, r4, r5, r6)) ∧ Aside0 (kq ≤ kj3) ∧ Aside0 (Kd.R Kd.string 9 w' w.heap.size (fun _ => True) u150001 x150001_2) ∧ Aside0 (w'.heap[gb147]? = some (.cells #[.string x148000_2, (.slice none 0 0), .string x148002_2, .int .u64 x148003_2, .string x148004_2] 25 (0, 0))) ∧ Aside0 (w'.heap[gb148]? = some (.cells #[.string (⟨#[]⟩ : ByteArray), (.slice none 0 0), .string (⟨#[]⟩ : ByteArray), .int .u64 0, .string (⟨#[]⟩ : ByteArray)] 25 (0, 0))) ∧ Aside0 (w'.heap[gb149]? = some (.cells #[.string t153, u150001, .string (⟨#[]⟩ : ByteArray), .int .u64 0, .string (⟨#[]⟩ : ByteArray)] 25 (0, 0))) ∧ Aside0 (Below w.heap.size w w'))
    case atStart => exact ⟨(t151), ((⟨#[]⟩ : ByteArray)), ((⟨#[]⟩ : ByteArray)), (0), ((⟨#[]⟩ : ByteArray)), (([] : List ByteArray)), (.slice none 0 0), ez_, H', ⟨Nat.le_refl _⟩, ⟨nz_⟩, ⟨by (with_reducible repeat (first | refine blk_drewN ?_ _ | refine blk_drew ?_ | refine blk_alloc ?_ _)); refine blk_far ?_ NB147_149.out _; (with_reducible repeat (first | refine blk_drewN ?_ _ | refine blk_drew ?_ | refine blk_alloc ?_ _)); exact BK147.out⟩, ⟨by (with_reducible repeat (first | refine blk_drewN ?_ _ | refine blk_drew ?_ | refine blk_alloc ?_ _)); refine blk_far ?_ NB148_149.out _; (with_reducible repeat (first | refine blk_drewN ?_ _ | refine blk_drew ?_ | refine blk_alloc ?_ _)); exact BK148.out⟩, ⟨by (with_reducible repeat (first | refine blk_drewN ?_ _ | refine blk_drew ?_ | refine blk_alloc ?_ _)); refine blk_put (cs := #[.string (⟨#[]⟩ : ByteArray), .slice none 0 0, .string (⟨#[]⟩ : ByteArray), .int .u64 0, .string (⟨#[]⟩ : ByteArray)]) ?_ 0 _ rfl; (with_reducible repeat (first | refine blk_drewN ?_ _ | refine blk_drew ?_ | refine blk_alloc ?_ _)); exact BK149.out⟩, ⟨bs3_ GE147.out GE148.out GE149.out⟩⟩
    case round =>
     clear H'
     try clear c1
     try clear c2
     try clear p2
     try clear c6
     try clear c7
     try clear c11
     try clear c12
     try clear c13
     try clear c14
     try clear c16
     try clear c18
     try clear c19
     try clear c20
     try clear hcz15_0
     try clear hcz15_1
     try clear hcz15_2
     try clear hcz15_3
     try clear hcz15_4
     try clear hcz17_0
     try clear hcz17_1
     try clear hcz17_2
     try clear hcz17_3
     try clear hcz17_4
     try clear hcz20_0
     try clear hcz20_1
     try clear hcz20_2
     try clear hcz20_3
     try clear hcz20_4
     try clear hcz8_0
     try clear hcz8_1
     try clear hcz8_2
     try clear hcz8_3
     try clear hcz8_4
     try clear hfz15_0
     try clear hfz15_1
     try clear hfz15_2
     try clear hfz15_3
     try clear hfz15_4
     try clear hfz17_0
     try clear hfz17_1
     try clear hfz17_2
     try clear hfz17_3
     try clear hfz17_4
     try clear hfz20_0
     try clear hfz20_1
     try clear hfz20_2
     try clear hfz20_3
     try clear hfz20_4
     try clear hfz8_0
     try clear hfz8_1
     try clear hfz8_2
     try clear hfz8_3
     try clear hfz8_4
     try clear p2
     obtain ⟨x7_2, x148000_2, x148002_2, x148003_2, x148004_2, x150001_2, u150001, rfl, HA, HK2, HO_150001, BK147, BK148, BK149, HB⟩ := hrel
     cases gk with
     | zero => exact absurd HA.out (by simp [ob_GetCommit.l0])
     | succ k2 =>
      have H := HA.out
      clear HA
      simp only [ob_GetCommit.l0] at H
      replace H := Option.bind_eq_some_iff.mp H
      obtain ⟨⟨t155, t156, t157⟩, A210, H⟩ := H
      try dsimp only at H
      have A21 := Aside0.mk A210
      clear A210
      by_cases c22 : t157 = true
      ·
       subst c22
       have H1 := H
       rw [if_pos rfl] at H1
       clear H
       have H := H1
       clear H1
       replace H := Option.bind_eq_some_iff.mp H
       obtain ⟨⟨t158, t159⟩, A230, H⟩ := H
       try dsimp only at H
       have A23 := Aside0.mk A230
       clear A230
       by_cases c24 : t159 = true
       ·
        subst c24
        have H1 := H
        rw [if_pos rfl] at H1
        clear H
        have H := H1
        clear H1
        by_cases c25 : x150001_2.length < 8796093022208
        · rw [if_pos c25] at H
          have LMc25 := Aside0.mk c25
          clear c25
          obtain ⟨y160, hy160⟩ : ∃ y_ : List ByteArray, y_ = (x150001_2 ++ [t158]) := ⟨_, rfl⟩
          replace H : (ob_GetCommit.l0 k2 t156 (⟨#[]⟩ : ByteArray) (⟨#[]⟩ : ByteArray) 0 (⟨#[]⟩ : ByteArray) t153 y160 (⟨#[]⟩ : ByteArray) 0 (⟨#[]⟩ : ByteArray)) = some (r1, r2, r3, r4, r5, r6) := by first | (rw [hy160]; with_reducible exact H) | (have H2_ := (Option.bind_some _ _).symm.trans H; rw [hy160]; with_reducible exact H2_) | (have H2_ := (Option.bind_some _ _).symm.trans H; with_reducible exact H2_) | with_reducible exact H | (rw [hy160]; exact H) | exact H
          have Ny160 := Aside0.mk hy160
          clear hy160
          have H' := Aside0.mk H
          clear H
          go_wp2_with (first | ((with_reducible refine gate_callee (f := 20) rfl ?_); refine goesM_ (some 47) Tryd.func20 #[.string x7_2, .string (⟨#[112, 97, 114, 101, 110, 116]⟩ : ByteArray)] ?_; (with_reducible refine (ob_line.calls x7_2 (⟨#[112, 97, 114, 101, 110, 116]⟩ : ByteArray) t155 t156 true _ A21.out).mono ?_); rintro e w' ⟨rfl, ⟨nd, rfl⟩⟩; refine ⟨_, rfl, ?_⟩; (try (rw [drewN_self wr]; generalize hq_ : World.drewN wr _ = wr; have n0_ : Aside0 (Kd.R Kd.string 9 wr w.heap.size (fun _ => True) u150001 x150001_2) := ⟨by rw [← hq_]; exact (rz_ HO_150001.out)⟩; have n1_ : Aside0 (wr.heap[gb147]? = some (.cells #[.string x148000_2, .slice none 0 0, .string x148002_2, .int .u64 x148003_2, .string x148004_2] 25 (0, 0))) := ⟨by rw [← hq_]; exact (kz_ BK147.out)⟩; have n2_ : Aside0 (wr.heap[gb148]? = some (.cells #[.string (⟨#[]⟩ : ByteArray), .slice none 0 0, .string (⟨#[]⟩ : ByteArray), .int .u64 0, .string (⟨#[]⟩ : ByteArray)] 25 (0, 0))) := ⟨by rw [← hq_]; exact (kz_ BK148.out)⟩; have n3_ : Aside0 (wr.heap[gb149]? = some (.cells #[.string t153, u150001, .string (⟨#[]⟩ : ByteArray), .int .u64 0, .string (⟨#[]⟩ : ByteArray)] 25 (0, 0))) := ⟨by rw [← hq_]; exact (kz_ BK149.out)⟩; have n4_ : Aside0 (Below w.heap.size w wr) := ⟨by rw [← hq_]; exact (bs3_ GE147.out GE148.out GE149.out)⟩; clear HO_150001 BK147 BK148 BK149 HB hq_; have HO_150001 := n0_; have BK147 := n1_; have BK148 := n2_; have BK149 := n3_; have HB := n4_; clear n0_ n1_ n2_ n3_ n4_))) | ((with_reducible refine gate_callee (f := 21) rfl ?_); refine goesM_ (some 55) Tryd.func21 #[.string t155] ?_; (with_reducible refine (ob_idOf.calls t155 t158 true _ A23.out).mono ?_); rintro e w26 ⟨rfl, hb⟩; refine ⟨_, rfl, ?_⟩; have n0_ := Aside0.mk (Kd.R_below (rz_ HO_150001.out) hb); have n1_ := Aside0.mk (blk_below (g := gb147) (o := .cells #[.string x148000_2, .slice none 0 0, .string x148002_2, .int .u64 x148003_2, .string x148004_2] 25 (0, 0)) (kz_ BK147.out) hb); have n2_ := Aside0.mk (blk_below (g := gb148) (o := .cells #[.string (⟨#[]⟩ : ByteArray), .slice none 0 0, .string (⟨#[]⟩ : ByteArray), .int .u64 0, .string (⟨#[]⟩ : ByteArray)] 25 (0, 0)) (kz_ BK148.out) hb); have n3_ := Aside0.mk (blk_below (g := gb149) (o := .cells #[.string t153, u150001, .string (⟨#[]⟩ : ByteArray), .int .u64 0, .string (⟨#[]⟩ : ByteArray)] 25 (0, 0)) (kz_ BK149.out) hb); have n4_ := Aside0.mk (below_step (bs3_ GE147.out GE148.out GE149.out) hb); clear HO_150001; clear BK147; clear BK148; clear BK149; clear HB; have HO_150001 := n0_; have BK147 := n1_; have BK148 := n2_; have BK149 := n3_; have HB := n4_; clear n0_ n1_ n2_ n3_ n4_; (try clear hb); (try clear hb2); (try clear hk); (try clear hi); have hnb27 := NB149_147.out; have hnc27 := NB147_149.out; have hnb28 := NB149_148.out; have hnc28 := NB148_149.out; have hcz29_0 : w26.cell? ⟨gb149, 0, none⟩ = some (.string t153) := (blk_cell BK149.out 0).trans rfl; have hcz29_1 : w26.cell? ⟨gb149, 1, none⟩ = some (u150001) := (blk_cell BK149.out 1).trans rfl; have hcz29_2 : w26.cell? ⟨gb149, 2, none⟩ = some (.string (⟨#[]⟩ : ByteArray)) := (blk_cell BK149.out 2).trans rfl; have hcz29_3 : w26.cell? ⟨gb149, 3, none⟩ = some (.int .u64 0) := (blk_cell BK149.out 3).trans rfl; have hcz29_4 : w26.cell? ⟨gb149, 4, none⟩ = some (.string (⟨#[]⟩ : ByteArray)) := (blk_cell BK149.out 4).trans rfl; have hfz29_0 := blk_frozen BK149.out 0; have hfz29_1 := blk_frozen BK149.out 1; have hfz29_2 := blk_frozen BK149.out 2; have hfz29_3 := blk_frozen BK149.out 3; have hfz29_4 := blk_frozen BK149.out 4) | ((with_reducible refine gate_builtin (b := .append) (xs := #[.tmp 62, .tmp 64]) rfl ?_); at_builtin; refine Kd.R_append Kd.string (w0 := w) w.heap.size rfl (.tmp 62) (.tmp 64) 22 9 (.string ⟨#[]⟩) 16 rfl Tryd.underlying22 info9 rfl (by decide) (by omega) u150001 x150001_2 t158 [.string t158] (fun _ => True) (fun _ => False) rfl rfl ?aP (fun _ hk => hk.elim) ?aF ?aO ?aB ?aS ?aL ?_; (case aP => exact rfl); (case aB => exact (bs3_ GE147.out GE148.out GE149.out)); (case aF => exact (fun _ _ => trivial)); (case aO => exact (rz_ HO_150001.out)); (case aS => exact (below_size (bs3_ GE147.out GE148.out GE149.out))); (case aL => have := LMc25.out; omega); intro v161 w30 ho hb hg hat; rw [← Ny160.out] at ho; have n0_ := Aside0.mk (blk_grown (g := gb147) (o := .cells #[.string x148000_2, .slice none 0 0, .string x148002_2, .int .u64 x148003_2, .string x148004_2] 25 (0, 0)) (kz_ BK147.out) hg (Kd.R_ne HO_150001.out BK147.out (by decide))); have n1_ := Aside0.mk (blk_grown (g := gb148) (o := .cells #[.string (⟨#[]⟩ : ByteArray), .slice none 0 0, .string (⟨#[]⟩ : ByteArray), .int .u64 0, .string (⟨#[]⟩ : ByteArray)] 25 (0, 0)) (kz_ BK148.out) hg (Kd.R_ne HO_150001.out BK148.out (by decide))); have n2_ := Aside0.mk (blk_grown (g := gb149) (o := .cells #[.string t153, u150001, .string (⟨#[]⟩ : ByteArray), .int .u64 0, .string (⟨#[]⟩ : ByteArray)] 25 (0, 0)) (kz_ BK149.out) hg (Kd.R_ne HO_150001.out BK149.out (by decide))); have n3_ := Aside0.mk (hb); have n4_ := Aside0.mk (ho); clear BK147; clear BK148; clear BK149; clear HB; clear HO_150001; have BK147 := n0_; have BK148 := n1_; have BK149 := n2_; have HB := n3_; have HO162 := n4_; clear n0_ n1_ n2_ n3_ n4_; clear ho hb hg hat; obtain ⟨Ao31, co31, eo31⟩ := Kd.R_slice HO162.out; subst eo31; have hcz32_0 : w30.cell? ⟨gb149, 0, none⟩ = some (.string t153) := (blk_cell BK149.out 0).trans rfl; have hcz32_1 : w30.cell? ⟨gb149, 1, none⟩ = some (u150001) := (blk_cell BK149.out 1).trans rfl; have hcz32_2 : w30.cell? ⟨gb149, 2, none⟩ = some (.string (⟨#[]⟩ : ByteArray)) := (blk_cell BK149.out 2).trans rfl; have hcz32_3 : w30.cell? ⟨gb149, 3, none⟩ = some (.int .u64 0) := (blk_cell BK149.out 3).trans rfl; have hcz32_4 : w30.cell? ⟨gb149, 4, none⟩ = some (.string (⟨#[]⟩ : ByteArray)) := (blk_cell BK149.out 4).trans rfl; have hfz32_0 := blk_frozen BK149.out 0; have hfz32_1 := blk_frozen BK149.out 1; have hfz32_2 := blk_frozen BK149.out 2; have hfz32_3 := blk_frozen BK149.out 3; have hfz32_4 := blk_frozen BK149.out 4))
          go_roundg k2
          case measure => have := HJ3.out; have := HK2.out; omega
          case rel => exact ⟨(t156), (x148000_2), (x148002_2), (x148003_2), (x148004_2), (y160), (.slice Ao31 y160.length co31), ez_, H', ⟨by have := HJ3.out; have := HK2.out; omega⟩, ⟨rz_ (Kd.R_mono (Kd.R_far (p := ⟨gb149, 1, none⟩) (Kd.R_types HO162.out BK149.out (by decide)) (fun _ hk => hk.2) (.slice Ao31 y160.length co31)) (fun _ hk => trivial))⟩, ⟨by (with_reducible repeat (first | refine blk_drewN ?_ _ | refine blk_drew ?_ | refine blk_alloc ?_ _)); refine blk_far ?_ NB147_149.out _; (with_reducible repeat (first | refine blk_drewN ?_ _ | refine blk_drew ?_ | refine blk_alloc ?_ _)); exact BK147.out⟩, ⟨by (with_reducible repeat (first | refine blk_drewN ?_ _ | refine blk_drew ?_ | refine blk_alloc ?_ _)); refine blk_far ?_ NB148_149.out _; (with_reducible repeat (first | refine blk_drewN ?_ _ | refine blk_drew ?_ | refine blk_alloc ?_ _)); exact BK148.out⟩, ⟨by (with_reducible repeat (first | refine blk_drewN ?_ _ | refine blk_drew ?_ | refine blk_alloc ?_ _)); refine blk_put (cs := #[.string t153, u150001, .string (⟨#[]⟩ : ByteArray), .int .u64 0, .string (⟨#[]⟩ : ByteArray)]) ?_ 1 _ rfl; (with_reducible repeat (first | refine blk_drewN ?_ _ | refine blk_drew ?_ | refine blk_alloc ?_ _)); exact BK149.out⟩, ⟨bs3_ GE147.out GE148.out GE149.out⟩⟩
        · rw [if_neg c25] at H
          exact absurd H (by simp)
       · replace c24 := Bool.eq_false_iff.mpr c24
         subst c24
         have H1 := H
         rw [if_neg (show ¬ (false = true) by decide)] at H1
         clear H
         have H := H1
         clear H1
         simp only [Option.some.injEq, Prod.mk.injEq] at H
         obtain ⟨rfl, rfl, rfl, rfl, rfl, rfl⟩ := H
         go_wp2_with (first | ((with_reducible refine gate_callee (f := 20) rfl ?_); refine goesM_ (some 47) Tryd.func20 #[.string x7_2, .string (⟨#[112, 97, 114, 101, 110, 116]⟩ : ByteArray)] ?_; (with_reducible refine (ob_line.calls x7_2 (⟨#[112, 97, 114, 101, 110, 116]⟩ : ByteArray) t155 t156 true _ A21.out).mono ?_); rintro e w' ⟨rfl, ⟨nd, rfl⟩⟩; refine ⟨_, rfl, ?_⟩; (try (rw [drewN_self wr]; generalize hq_ : World.drewN wr _ = wr; have n0_ : Aside0 (Kd.R Kd.string 9 wr w.heap.size (fun _ => True) u150001 x150001_2) := ⟨by rw [← hq_]; exact (rz_ HO_150001.out)⟩; have n1_ : Aside0 (wr.heap[gb147]? = some (.cells #[.string x148000_2, .slice none 0 0, .string x148002_2, .int .u64 x148003_2, .string x148004_2] 25 (0, 0))) := ⟨by rw [← hq_]; exact (kz_ BK147.out)⟩; have n2_ : Aside0 (wr.heap[gb148]? = some (.cells #[.string (⟨#[]⟩ : ByteArray), .slice none 0 0, .string (⟨#[]⟩ : ByteArray), .int .u64 0, .string (⟨#[]⟩ : ByteArray)] 25 (0, 0))) := ⟨by rw [← hq_]; exact (kz_ BK148.out)⟩; have n3_ : Aside0 (wr.heap[gb149]? = some (.cells #[.string t153, u150001, .string (⟨#[]⟩ : ByteArray), .int .u64 0, .string (⟨#[]⟩ : ByteArray)] 25 (0, 0))) := ⟨by rw [← hq_]; exact (kz_ BK149.out)⟩; have n4_ : Aside0 (Below w.heap.size w wr) := ⟨by rw [← hq_]; exact (bs3_ GE147.out GE148.out GE149.out)⟩; clear HO_150001 BK147 BK148 BK149 HB hq_; have HO_150001 := n0_; have BK147 := n1_; have BK148 := n2_; have BK149 := n3_; have HB := n4_; clear n0_ n1_ n2_ n3_ n4_))) | ((with_reducible refine gate_callee (f := 21) rfl ?_); refine goesM_ (some 55) Tryd.func21 #[.string t155] ?_; (with_reducible refine (ob_idOf.calls t155 t158 false _ A23.out).mono ?_); rintro e w33 ⟨rfl, hb⟩; refine ⟨_, rfl, ?_⟩; have n0_ := Aside0.mk (Kd.R_below (rz_ HO_150001.out) hb); have n1_ := Aside0.mk (blk_below (g := gb147) (o := .cells #[.string x148000_2, .slice none 0 0, .string x148002_2, .int .u64 x148003_2, .string x148004_2] 25 (0, 0)) (kz_ BK147.out) hb); have n2_ := Aside0.mk (blk_below (g := gb148) (o := .cells #[.string (⟨#[]⟩ : ByteArray), .slice none 0 0, .string (⟨#[]⟩ : ByteArray), .int .u64 0, .string (⟨#[]⟩ : ByteArray)] 25 (0, 0)) (kz_ BK148.out) hb); have n3_ := Aside0.mk (blk_below (g := gb149) (o := .cells #[.string t153, u150001, .string (⟨#[]⟩ : ByteArray), .int .u64 0, .string (⟨#[]⟩ : ByteArray)] 25 (0, 0)) (kz_ BK149.out) hb); have n4_ := Aside0.mk (below_step (bs3_ GE147.out GE148.out GE149.out) hb); clear HO_150001; clear BK147; clear BK148; clear BK149; clear HB; have HO_150001 := n0_; have BK147 := n1_; have BK148 := n2_; have BK149 := n3_; have HB := n4_; clear n0_ n1_ n2_ n3_ n4_; (try clear hb); (try clear hb2); (try clear hk); (try clear hi); have hnb34 := NB148_147.out; have hnc34 := NB147_148.out; have hnb35 := NB148_149.out; have hnc35 := NB149_148.out; have hcz36_0 : w33.cell? ⟨gb148, 0, none⟩ = some (.string (⟨#[]⟩ : ByteArray)) := (blk_cell BK148.out 0).trans rfl; have hcz36_1 : w33.cell? ⟨gb148, 1, none⟩ = some (.slice none 0 0) := (blk_cell BK148.out 1).trans rfl; have hcz36_2 : w33.cell? ⟨gb148, 2, none⟩ = some (.string (⟨#[]⟩ : ByteArray)) := (blk_cell BK148.out 2).trans rfl; have hcz36_3 : w33.cell? ⟨gb148, 3, none⟩ = some (.int .u64 0) := (blk_cell BK148.out 3).trans rfl; have hcz36_4 : w33.cell? ⟨gb148, 4, none⟩ = some (.string (⟨#[]⟩ : ByteArray)) := (blk_cell BK148.out 4).trans rfl; have hfz36_0 := blk_frozen BK148.out 0; have hfz36_1 := blk_frozen BK148.out 1; have hfz36_2 := blk_frozen BK148.out 2; have hfz36_3 := blk_frozen BK148.out 3; have hfz36_4 := blk_frozen BK148.out 4; have hnb37 := NB147_149.out; have hnc37 := NB149_147.out; have hcz38_0 : w33.cell? ⟨gb147, 0, none⟩ = some (.string x148000_2) := (blk_cell BK147.out 0).trans rfl; have hcz38_1 : w33.cell? ⟨gb147, 1, none⟩ = some (.slice none 0 0) := (blk_cell BK147.out 1).trans rfl; have hcz38_2 : w33.cell? ⟨gb147, 2, none⟩ = some (.string x148002_2) := (blk_cell BK147.out 2).trans rfl; have hcz38_3 : w33.cell? ⟨gb147, 3, none⟩ = some (.int .u64 x148003_2) := (blk_cell BK147.out 3).trans rfl; have hcz38_4 : w33.cell? ⟨gb147, 4, none⟩ = some (.string x148004_2) := (blk_cell BK147.out 4).trans rfl; have hfz38_0 := blk_frozen BK147.out 0; have hfz38_1 := blk_frozen BK147.out 1; have hfz38_2 := blk_frozen BK147.out 2; have hfz38_3 := blk_frozen BK147.out 3; have hfz38_4 := blk_frozen BK147.out 4))
         refine bodyPost_ret (results_ct rfl _ _ gb147 25 #[.string (⟨#[]⟩ : ByteArray), .slice none 0 0, .string (⟨#[]⟩ : ByteArray), .int .u64 0, .string (⟨#[]⟩ : ByteArray)] (0, 0) _ rfl (by (with_reducible repeat (first | refine blk_drewN ?_ _ | refine blk_drew ?_ | refine blk_alloc ?_ _)); refine blk_put (cs := #[.string (⟨#[]⟩ : ByteArray), .slice none 0 0, .string (⟨#[]⟩ : ByteArray), .int .u64 0, .string x148004_2]) ?_ 4 _ rfl; (with_reducible repeat (first | refine blk_drewN ?_ _ | refine blk_drew ?_ | refine blk_alloc ?_ _)); refine blk_put (cs := #[.string (⟨#[]⟩ : ByteArray), .slice none 0 0, .string (⟨#[]⟩ : ByteArray), .int .u64 x148003_2, .string x148004_2]) ?_ 3 _ rfl; (with_reducible repeat (first | refine blk_drewN ?_ _ | refine blk_drew ?_ | refine blk_alloc ?_ _)); refine blk_put (cs := #[.string (⟨#[]⟩ : ByteArray), .slice none 0 0, .string x148002_2, .int .u64 x148003_2, .string x148004_2]) ?_ 2 _ rfl; (with_reducible repeat (first | refine blk_drewN ?_ _ | refine blk_drew ?_ | refine blk_alloc ?_ _)); refine blk_put (cs := #[.string (⟨#[]⟩ : ByteArray), .slice none 0 0, .string x148002_2, .int .u64 x148003_2, .string x148004_2]) ?_ 1 _ rfl; (with_reducible repeat (first | refine blk_drewN ?_ _ | refine blk_drew ?_ | refine blk_alloc ?_ _)); refine blk_put (cs := #[.string x148000_2, .slice none 0 0, .string x148002_2, .int .u64 x148003_2, .string x148004_2]) ?_ 0 _ rfl; (with_reducible repeat (first | refine blk_drewN ?_ _ | refine blk_drew ?_ | refine blk_alloc ?_ _)); exact BK147.out) Tryd.underlying25 rfl (by kernel_rfl)) rfl ?_
         exact ⟨_, xz_, nz_, bs3_ GE147.out GE148.out GE149.out⟩
      ·
       replace c22 := Bool.eq_false_iff.mpr c22
       subst c22
       have H1 := H
       rw [if_neg (show ¬ (false = true) by decide)] at H1
       clear H
       have H := H1
       clear H1
       replace H := Option.bind_eq_some_iff.mp H
       obtain ⟨⟨t163, t164, t165⟩, A390, H⟩ := H
       try dsimp only at H
       have A39 := Aside0.mk A390
       clear A390
       replace H := Option.bind_eq_some_iff.mp H
       obtain ⟨⟨t166, t167, t168⟩, A400, H⟩ := H
       try dsimp only at H
       have A40 := Aside0.mk A400
       clear A400
       replace H := Option.bind_eq_some_iff.mp H
       obtain ⟨⟨t169, t170⟩, A410, H⟩ := H
       try dsimp only at H
       have A41 := Aside0.mk A410
       clear A410
       replace H := Option.bind_eq_some_iff.mp H
       obtain ⟨⟨t171, t172⟩, A420, H⟩ := H
       try dsimp only at H
       have A42 := Aside0.mk A420
       clear A420
       have HC43 := Aside0.mk H
       clear H
       go_upto_region 18 with (first | ((with_reducible refine gate_callee (f := 20) rfl ?_); refine goesM_ (some 47) Tryd.func20 #[.string x7_2, .string (⟨#[112, 97, 114, 101, 110, 116]⟩ : ByteArray)] ?_; (with_reducible refine (ob_line.calls x7_2 (⟨#[112, 97, 114, 101, 110, 116]⟩ : ByteArray) t155 t156 false _ A21.out).mono ?_); rintro e w' ⟨rfl, ⟨nd, rfl⟩⟩; refine ⟨_, rfl, ?_⟩) | ((with_reducible refine gate_callee (f := 20) rfl ?_); refine goesM_ (some 70) Tryd.func20 #[.string x7_2, .string (⟨#[97, 117, 116, 104, 111, 114]⟩ : ByteArray)] ?_; (with_reducible refine (ob_line.calls x7_2 (⟨#[97, 117, 116, 104, 111, 114]⟩ : ByteArray) t163 t164 t165 _ A39.out).mono ?_); rintro e w' ⟨rfl, ⟨nd, rfl⟩⟩; refine ⟨_, rfl, ?_⟩) | ((with_reducible refine gate_callee (f := 20) rfl ?_); refine goesM_ (some 76) Tryd.func20 #[.string t164, .string (⟨#[116, 105, 109, 101]⟩ : ByteArray)] ?_; (with_reducible refine (ob_line.calls t164 (⟨#[116, 105, 109, 101]⟩ : ByteArray) t166 t167 t168 _ A40.out).mono ?_); rintro e w' ⟨rfl, ⟨nd, rfl⟩⟩; refine ⟨_, rfl, ?_⟩) | ((with_reducible refine gate_callee (f := 22) rfl ?_); refine goesM_ (some 82) Tryd.func22 #[.string t167, .string (⟨#[10]⟩ : ByteArray)] ?_; (with_reducible refine (strings_CutPrefix.calls t167 (⟨#[10]⟩ : ByteArray) t169 t170 _ A41.out).mono ?_); rintro e w' ⟨rfl, ⟨nd, rfl⟩⟩; refine ⟨_, rfl, ?_⟩) | ((with_reducible refine gate_callee (f := 23) rfl ?_); refine goesM_ (some 87) Tryd.func23 #[.string t166] ?_; (with_reducible refine (code_Undec.calls k2 t166 t171 t172 _ A42.out).mono ?_); rintro e w44 ⟨rfl, hb⟩; refine ⟨_, rfl, ?_⟩; have n0_ := Aside0.mk (Kd.R_below (rz_ HO_150001.out) hb); have n1_ := Aside0.mk (blk_below (g := gb147) (o := .cells #[.string x148000_2, .slice none 0 0, .string x148002_2, .int .u64 x148003_2, .string x148004_2] 25 (0, 0)) (kz_ BK147.out) hb); have n2_ := Aside0.mk (blk_below (g := gb148) (o := .cells #[.string (⟨#[]⟩ : ByteArray), .slice none 0 0, .string (⟨#[]⟩ : ByteArray), .int .u64 0, .string (⟨#[]⟩ : ByteArray)] 25 (0, 0)) (kz_ BK148.out) hb); have n3_ := Aside0.mk (blk_below (g := gb149) (o := .cells #[.string t153, u150001, .string (⟨#[]⟩ : ByteArray), .int .u64 0, .string (⟨#[]⟩ : ByteArray)] 25 (0, 0)) (kz_ BK149.out) hb); have n4_ := Aside0.mk (below_step (bs3_ GE147.out GE148.out GE149.out) hb); clear HO_150001; clear BK147; clear BK148; clear BK149; clear HB; have HO_150001 := n0_; have BK147 := n1_; have BK148 := n2_; have BK149 := n3_; have HB := n4_; clear n0_ n1_ n2_ n3_ n4_; (try clear hb); (try clear hb2); (try clear hk); (try clear hi)))
       (try simp only [Act.put, List.setIfInBounds_toArray, List.set_cons_zero, List.set_cons_succ])
       go_cut [103] (fun v103 wc => ∃ (kq : Nat) (x103_42 : Bool), v103 = .bool x103_42 ∧ Aside0 (ob_GetCommit.j2 kq t163 t169 t171 x103_42 (⟨#[]⟩ : ByteArray) (⟨#[]⟩ : ByteArray) 0 (⟨#[]⟩ : ByteArray) t153 x150001_2 (⟨#[]⟩ : ByteArray) 0 (⟨#[]⟩ : ByteArray) = some (r1, r2, r3, r4, r5, r6)) ∧ Aside0 (kq ≤ k2) ∧ Aside0 (Kd.R Kd.string 9 wc w.heap.size (fun _ => True) u150001 x150001_2) ∧ Aside0 (wc.heap[gb147]? = some (.cells #[.string x148000_2, (.slice none 0 0), .string x148002_2, .int .u64 x148003_2, .string x148004_2] 25 (0, 0))) ∧ Aside0 (wc.heap[gb148]? = some (.cells #[.string (⟨#[]⟩ : ByteArray), (.slice none 0 0), .string (⟨#[]⟩ : ByteArray), .int .u64 0, .string (⟨#[]⟩ : ByteArray)] 25 (0, 0))) ∧ Aside0 (wc.heap[gb149]? = some (.cells #[.string t153, u150001, .string (⟨#[]⟩ : ByteArray), .int .u64 0, .string (⟨#[]⟩ : ByteArray)] 25 (0, 0))) ∧ Aside0 (Below w.heap.size w wc))
       case first =>
        have H := HC43.out
        clear HC43
        by_cases c45 : t165 = true
        ·
         subst c45
         have H1 := H
         rw [if_pos rfl] at H1
         clear H
         have H := H1
         clear H1
         by_cases c46 : t168 = true
         ·
          subst c46
          have H1 := H
          rw [if_pos rfl] at H1
          clear H
          have H := H1
          clear H1
          by_cases c47 : t170 = true
          · subst c47
            have H1 := H
            rw [if_pos rfl] at H1
            clear H
            have H := H1
            clear H1
            have H' := Aside0.mk H
            clear H
            go_wp2
            go_meet
            case rel => exact ⟨_, ((t172 != 0)), ez_, H', ⟨by have := HJ3.out; have := HK2.out; first | omega | exact Nat.le_refl _⟩, ⟨rz_ HO_150001.out⟩, ⟨kz_ BK147.out⟩, ⟨kz_ BK148.out⟩, ⟨kz_ BK149.out⟩, ⟨bs3_ GE147.out GE148.out GE149.out⟩⟩
          · replace c47 := Bool.eq_false_iff.mpr c47
            subst c47
            have H1 := H
            rw [if_neg (show ¬ (false = true) by decide)] at H1
            clear H
            have H := H1
            clear H1
            have H' := Aside0.mk H
            clear H
            go_wp2
            go_meet
            case rel => exact ⟨_, (true), ez_, H', ⟨by have := HJ3.out; have := HK2.out; first | omega | exact Nat.le_refl _⟩, ⟨rz_ HO_150001.out⟩, ⟨kz_ BK147.out⟩, ⟨kz_ BK148.out⟩, ⟨kz_ BK149.out⟩, ⟨bs3_ GE147.out GE148.out GE149.out⟩⟩
         · replace c46 := Bool.eq_false_iff.mpr c46
           subst c46
           have H1 := H
           rw [if_neg (show ¬ (false = true) by decide)] at H1
           clear H
           have H := H1
           clear H1
           have H' := Aside0.mk H
           clear H
           go_wp2
           go_meet
           case rel => exact ⟨_, (true), ez_, H', ⟨by have := HJ3.out; have := HK2.out; first | omega | exact Nat.le_refl _⟩, ⟨rz_ HO_150001.out⟩, ⟨kz_ BK147.out⟩, ⟨kz_ BK148.out⟩, ⟨kz_ BK149.out⟩, ⟨bs3_ GE147.out GE148.out GE149.out⟩⟩
        · replace c45 := Bool.eq_false_iff.mpr c45
          subst c45
          have H1 := H
          rw [if_neg (show ¬ (false = true) by decide)] at H1
          clear H
          have H := H1
          clear H1
          have H' := Aside0.mk H
          clear H
          go_wp2
          go_meet
          case rel => exact ⟨_, (true), ez_, H', ⟨by have := HJ3.out; have := HK2.out; first | omega | exact Nat.le_refl _⟩, ⟨rz_ HO_150001.out⟩, ⟨kz_ BK147.out⟩, ⟨kz_ BK148.out⟩, ⟨kz_ BK149.out⟩, ⟨bs3_ GE147.out GE148.out GE149.out⟩⟩
       case rest =>
        clear HC43
        try clear c1
        try clear c2
        try clear p2
        try clear c3
        try clear c4
        try clear c6
        try clear c7
        try clear c11
        try clear c12
        try clear c13
        try clear c14
        try clear c16
        try clear c18
        try clear c19
        try clear c20
        try clear c21
        try clear c22
        try clear c23
        try clear c24
        try clear c25
        try clear c27
        try clear c28
        try clear c34
        try clear c35
        try clear c37
        try clear c45
        try clear c46
        try clear c47
        try clear hcz15_0
        try clear hcz15_1
        try clear hcz15_2
        try clear hcz15_3
        try clear hcz15_4
        try clear hcz17_0
        try clear hcz17_1
        try clear hcz17_2
        try clear hcz17_3
        try clear hcz17_4
        try clear hcz20_0
        try clear hcz20_1
        try clear hcz20_2
        try clear hcz20_3
        try clear hcz20_4
        try clear hcz29_0
        try clear hcz29_1
        try clear hcz29_2
        try clear hcz29_3
        try clear hcz29_4
        try clear hcz32_0
        try clear hcz32_1
        try clear hcz32_2
        try clear hcz32_3
        try clear hcz32_4
        try clear hcz36_0
        try clear hcz36_1
        try clear hcz36_2
        try clear hcz36_3
        try clear hcz36_4
        try clear hcz38_0
        try clear hcz38_1
        try clear hcz38_2
        try clear hcz38_3
        try clear hcz38_4
        try clear hcz8_0
        try clear hcz8_1
        try clear hcz8_2
        try clear hcz8_3
        try clear hcz8_4
        try clear hfz15_0
        try clear hfz15_1
        try clear hfz15_2
        try clear hfz15_3
        try clear hfz15_4
        try clear hfz17_0
        try clear hfz17_1
        try clear hfz17_2
        try clear hfz17_3
        try clear hfz17_4
        try clear hfz20_0
        try clear hfz20_1
        try clear hfz20_2
        try clear hfz20_3
        try clear hfz20_4
        try clear hfz29_0
        try clear hfz29_1
        try clear hfz29_2
        try clear hfz29_3
        try clear hfz29_4
        try clear hfz32_0
        try clear hfz32_1
        try clear hfz32_2
        try clear hfz32_3
        try clear hfz32_4
        try clear hfz36_0
        try clear hfz36_1
        try clear hfz36_2
        try clear hfz36_3
        try clear hfz36_4
        try clear hfz38_0
        try clear hfz38_1
        try clear hfz38_2
        try clear hfz38_3
        try clear hfz38_4
        try clear hfz8_0
        try clear hfz8_1
        try clear hfz8_2
        try clear hfz8_3
        try clear hfz8_4
        try clear p2
        obtain ⟨kq, x103_42, rfl, HA, HJ42, HO_150001, BK147, BK148, BK149, HB⟩ := hcut
        cases kq with
        | zero => exact absurd HA.out (by simp [ob_GetCommit.j2])
        | succ kj42 =>
         have H := HA.out
         clear HA
         simp only [ob_GetCommit.j2] at H
         by_cases c48 : x103_42 = true
         ·
          subst c48
          have H1 := H
          rw [if_pos rfl] at H1
          clear H
          have H := H1
          clear H1
          simp only [Option.some.injEq, Prod.mk.injEq] at H
          obtain ⟨rfl, rfl, rfl, rfl, rfl, rfl⟩ := H
          have hnb49 := NB148_147.out
          have hnc49 := NB147_148.out
          have hnb50 := NB148_149.out
          have hnc50 := NB149_148.out
          have hcz51_0 : wc.cell? ⟨gb148, 0, none⟩ = some (.string (⟨#[]⟩ : ByteArray)) := (blk_cell BK148.out 0).trans rfl
          have hcz51_1 : wc.cell? ⟨gb148, 1, none⟩ = some (.slice none 0 0) := (blk_cell BK148.out 1).trans rfl
          have hcz51_2 : wc.cell? ⟨gb148, 2, none⟩ = some (.string (⟨#[]⟩ : ByteArray)) := (blk_cell BK148.out 2).trans rfl
          have hcz51_3 : wc.cell? ⟨gb148, 3, none⟩ = some (.int .u64 0) := (blk_cell BK148.out 3).trans rfl
          have hcz51_4 : wc.cell? ⟨gb148, 4, none⟩ = some (.string (⟨#[]⟩ : ByteArray)) := (blk_cell BK148.out 4).trans rfl
          have hfz51_0 := blk_frozen BK148.out 0
          have hfz51_1 := blk_frozen BK148.out 1
          have hfz51_2 := blk_frozen BK148.out 2
          have hfz51_3 := blk_frozen BK148.out 3
          have hfz51_4 := blk_frozen BK148.out 4
          have hnb52 := NB147_149.out
          have hnc52 := NB149_147.out
          have hcz53_0 : wc.cell? ⟨gb147, 0, none⟩ = some (.string x148000_2) := (blk_cell BK147.out 0).trans rfl
          have hcz53_1 : wc.cell? ⟨gb147, 1, none⟩ = some (.slice none 0 0) := (blk_cell BK147.out 1).trans rfl
          have hcz53_2 : wc.cell? ⟨gb147, 2, none⟩ = some (.string x148002_2) := (blk_cell BK147.out 2).trans rfl
          have hcz53_3 : wc.cell? ⟨gb147, 3, none⟩ = some (.int .u64 x148003_2) := (blk_cell BK147.out 3).trans rfl
          have hcz53_4 : wc.cell? ⟨gb147, 4, none⟩ = some (.string x148004_2) := (blk_cell BK147.out 4).trans rfl
          have hfz53_0 := blk_frozen BK147.out 0
          have hfz53_1 := blk_frozen BK147.out 1
          have hfz53_2 := blk_frozen BK147.out 2
          have hfz53_3 := blk_frozen BK147.out 3
          have hfz53_4 := blk_frozen BK147.out 4
          go_wp2
          refine bodyPost_ret (results_ct rfl _ _ gb147 25 #[.string (⟨#[]⟩ : ByteArray), .slice none 0 0, .string (⟨#[]⟩ : ByteArray), .int .u64 0, .string (⟨#[]⟩ : ByteArray)] (0, 0) _ rfl (by (with_reducible repeat (first | refine blk_drewN ?_ _ | refine blk_drew ?_ | refine blk_alloc ?_ _)); refine blk_put (cs := #[.string (⟨#[]⟩ : ByteArray), .slice none 0 0, .string (⟨#[]⟩ : ByteArray), .int .u64 0, .string x148004_2]) ?_ 4 _ rfl; (with_reducible repeat (first | refine blk_drewN ?_ _ | refine blk_drew ?_ | refine blk_alloc ?_ _)); refine blk_put (cs := #[.string (⟨#[]⟩ : ByteArray), .slice none 0 0, .string (⟨#[]⟩ : ByteArray), .int .u64 x148003_2, .string x148004_2]) ?_ 3 _ rfl; (with_reducible repeat (first | refine blk_drewN ?_ _ | refine blk_drew ?_ | refine blk_alloc ?_ _)); refine blk_put (cs := #[.string (⟨#[]⟩ : ByteArray), .slice none 0 0, .string x148002_2, .int .u64 x148003_2, .string x148004_2]) ?_ 2 _ rfl; (with_reducible repeat (first | refine blk_drewN ?_ _ | refine blk_drew ?_ | refine blk_alloc ?_ _)); refine blk_put (cs := #[.string (⟨#[]⟩ : ByteArray), .slice none 0 0, .string x148002_2, .int .u64 x148003_2, .string x148004_2]) ?_ 1 _ rfl; (with_reducible repeat (first | refine blk_drewN ?_ _ | refine blk_drew ?_ | refine blk_alloc ?_ _)); refine blk_put (cs := #[.string x148000_2, .slice none 0 0, .string x148002_2, .int .u64 x148003_2, .string x148004_2]) ?_ 0 _ rfl; (with_reducible repeat (first | refine blk_drewN ?_ _ | refine blk_drew ?_ | refine blk_alloc ?_ _)); exact BK147.out) Tryd.underlying25 rfl (by kernel_rfl)) rfl ?_
          exact ⟨_, xz_, nz_, bs3_ GE147.out GE148.out GE149.out⟩
         ·
          replace c48 := Bool.eq_false_iff.mpr c48
          subst c48
          have H1 := H
          rw [if_neg (show ¬ (false = true) by decide)] at H1
          clear H
          have H := H1
          clear H1
          replace H := Option.bind_eq_some_iff.mp H
          obtain ⟨t173, A540, H⟩ := H
          try dsimp only at H
          have A54 := Aside0.mk A540
          clear A540
          by_cases c55 : t173 = 0
          ·
           rw [if_pos c55] at H
           have c55b0 : (t173 == 0) = true := beq_iff_eq.mpr c55
           have c55b1 : (t173 != 0) = false := bne_eq_false_iff_eq.mpr c55
           clear c55
           simp only [Option.some.injEq, Prod.mk.injEq] at H
           obtain ⟨rfl, rfl, rfl, rfl, rfl, rfl⟩ := H
           have hnb56 := NB149_147.out
           have hnc56 := NB147_149.out
           have hnb57 := NB149_148.out
           have hnc57 := NB148_149.out
           have hcz58_0 : wc.cell? ⟨gb149, 0, none⟩ = some (.string t153) := (blk_cell BK149.out 0).trans rfl
           have hcz58_1 : wc.cell? ⟨gb149, 1, none⟩ = some (u150001) := (blk_cell BK149.out 1).trans rfl
           have hcz58_2 : wc.cell? ⟨gb149, 2, none⟩ = some (.string (⟨#[]⟩ : ByteArray)) := (blk_cell BK149.out 2).trans rfl
           have hcz58_3 : wc.cell? ⟨gb149, 3, none⟩ = some (.int .u64 0) := (blk_cell BK149.out 3).trans rfl
           have hcz58_4 : wc.cell? ⟨gb149, 4, none⟩ = some (.string (⟨#[]⟩ : ByteArray)) := (blk_cell BK149.out 4).trans rfl
           have hfz58_0 := blk_frozen BK149.out 0
           have hfz58_1 := blk_frozen BK149.out 1
           have hfz58_2 := blk_frozen BK149.out 2
           have hfz58_3 := blk_frozen BK149.out 3
           have hfz58_4 := blk_frozen BK149.out 4
           obtain ⟨Ao59, co59, eo59⟩ := Kd.R_slice HO_150001.out
           subst eo59
           go_wp2_with (first | ((with_reducible refine gate_callee (f := 15) rfl ?_); refine goesM_ (some 112) Tryd.func15 #[.agg #[.string t153, .slice Ao59 x150001_2.length co59, .string t163, .int .u64 t171, .string t169]] ?_; (with_reducible refine (ob_CheckCommit.calls kj42 t153 _ _ x150001_2 t163 t171 t169 t173 _ ?side1 ?side2 A54.out).mono ?_); (case side1 => refine (Kd.R_reads' (e := 9) (base := w.heap.size) (ok := fun k_ => True) (n := x150001_2.length) (c := co59) ?_).2.2; exact (rz_ ((Kd.R_mono (Kd.R_far (p := ⟨gb149, 4, none⟩) (Kd.R_far (p := ⟨gb149, 3, none⟩) (Kd.R_far (p := ⟨gb149, 2, none⟩) (Kd.R_types HO_150001.out BK149.out (by decide)) (fun _ hk => hk.2) (.string t163)) (fun _ hk => hk.2) (.int .u64 t171)) (fun _ hk => hk.2) (.string t169)) (fun _ h_ => h_.1))))); (case side2 => exact (Kd.R_reads' HO_150001.out).2.1); rintro e w60 ⟨rfl, hb⟩; refine ⟨_, rfl, ?_⟩; have n0_ := Aside0.mk (Kd.R_below (rz_ ((Kd.R_mono (Kd.R_far (p := ⟨gb149, 4, none⟩) (Kd.R_far (p := ⟨gb149, 3, none⟩) (Kd.R_far (p := ⟨gb149, 2, none⟩) (Kd.R_types HO_150001.out BK149.out (by decide)) (fun _ hk => hk.2) (.string t163)) (fun _ hk => hk.2) (.int .u64 t171)) (fun _ hk => hk.2) (.string t169)) (fun _ h_ => h_.1)))) hb); have n1_ := Aside0.mk (blk_below (g := gb147) (o := .cells #[.string x148000_2, .slice none 0 0, .string x148002_2, .int .u64 x148003_2, .string x148004_2] 25 (0, 0)) (by (with_reducible repeat (first | refine blk_drewN ?_ _ | refine blk_drew ?_ | refine blk_alloc ?_ _)); refine blk_far ?_ NB147_149.out _; (with_reducible repeat (first | refine blk_drewN ?_ _ | refine blk_drew ?_ | refine blk_alloc ?_ _)); refine blk_far ?_ NB147_149.out _; (with_reducible repeat (first | refine blk_drewN ?_ _ | refine blk_drew ?_ | refine blk_alloc ?_ _)); refine blk_far ?_ NB147_149.out _; (with_reducible repeat (first | refine blk_drewN ?_ _ | refine blk_drew ?_ | refine blk_alloc ?_ _)); exact BK147.out) hb); have n2_ := Aside0.mk (blk_below (g := gb148) (o := .cells #[.string (⟨#[]⟩ : ByteArray), .slice none 0 0, .string (⟨#[]⟩ : ByteArray), .int .u64 0, .string (⟨#[]⟩ : ByteArray)] 25 (0, 0)) (by (with_reducible repeat (first | refine blk_drewN ?_ _ | refine blk_drew ?_ | refine blk_alloc ?_ _)); refine blk_far ?_ NB148_149.out _; (with_reducible repeat (first | refine blk_drewN ?_ _ | refine blk_drew ?_ | refine blk_alloc ?_ _)); refine blk_far ?_ NB148_149.out _; (with_reducible repeat (first | refine blk_drewN ?_ _ | refine blk_drew ?_ | refine blk_alloc ?_ _)); refine blk_far ?_ NB148_149.out _; (with_reducible repeat (first | refine blk_drewN ?_ _ | refine blk_drew ?_ | refine blk_alloc ?_ _)); exact BK148.out) hb); have n3_ := Aside0.mk (blk_below (g := gb149) (o := .cells #[.string t153, .slice Ao59 x150001_2.length co59, .string t163, .int .u64 t171, .string t169] 25 (0, 0)) (by (with_reducible repeat (first | refine blk_drewN ?_ _ | refine blk_drew ?_ | refine blk_alloc ?_ _)); refine blk_put (cs := #[.string t153, .slice Ao59 x150001_2.length co59, .string t163, .int .u64 t171, .string (⟨#[]⟩ : ByteArray)]) ?_ 4 _ rfl; (with_reducible repeat (first | refine blk_drewN ?_ _ | refine blk_drew ?_ | refine blk_alloc ?_ _)); refine blk_put (cs := #[.string t153, .slice Ao59 x150001_2.length co59, .string t163, .int .u64 0, .string (⟨#[]⟩ : ByteArray)]) ?_ 3 _ rfl; (with_reducible repeat (first | refine blk_drewN ?_ _ | refine blk_drew ?_ | refine blk_alloc ?_ _)); refine blk_put (cs := #[.string t153, .slice Ao59 x150001_2.length co59, .string (⟨#[]⟩ : ByteArray), .int .u64 0, .string (⟨#[]⟩ : ByteArray)]) ?_ 2 _ rfl; (with_reducible repeat (first | refine blk_drewN ?_ _ | refine blk_drew ?_ | refine blk_alloc ?_ _)); exact BK149.out) hb); have n4_ := Aside0.mk (below_step (bs3_ GE147.out GE148.out GE149.out) hb); clear HO_150001; clear BK147; clear BK148; clear BK149; clear HB; have HO_150001 := n0_; have BK147 := n1_; have BK148 := n2_; have BK149 := n3_; have HB := n4_; clear n0_ n1_ n2_ n3_ n4_; (try clear hb); (try clear hb2); (try clear hk); (try clear hi); have hcz61_0 : w60.cell? ⟨gb149, 0, none⟩ = some (.string t153) := (blk_cell BK149.out 0).trans rfl; have hcz61_1 : w60.cell? ⟨gb149, 1, none⟩ = some (.slice Ao59 x150001_2.length co59) := (blk_cell BK149.out 1).trans rfl; have hcz61_2 : w60.cell? ⟨gb149, 2, none⟩ = some (.string t163) := (blk_cell BK149.out 2).trans rfl; have hcz61_3 : w60.cell? ⟨gb149, 3, none⟩ = some (.int .u64 t171) := (blk_cell BK149.out 3).trans rfl; have hcz61_4 : w60.cell? ⟨gb149, 4, none⟩ = some (.string t169) := (blk_cell BK149.out 4).trans rfl; have hfz61_0 := blk_frozen BK149.out 0; have hfz61_1 := blk_frozen BK149.out 1; have hfz61_2 := blk_frozen BK149.out 2; have hfz61_3 := blk_frozen BK149.out 3; have hfz61_4 := blk_frozen BK149.out 4; have hnb62 := NB147_148.out; have hnc62 := NB148_147.out; have hcz63_0 : w60.cell? ⟨gb147, 0, none⟩ = some (.string x148000_2) := (blk_cell BK147.out 0).trans rfl; have hcz63_1 : w60.cell? ⟨gb147, 1, none⟩ = some (.slice none 0 0) := (blk_cell BK147.out 1).trans rfl; have hcz63_2 : w60.cell? ⟨gb147, 2, none⟩ = some (.string x148002_2) := (blk_cell BK147.out 2).trans rfl; have hcz63_3 : w60.cell? ⟨gb147, 3, none⟩ = some (.int .u64 x148003_2) := (blk_cell BK147.out 3).trans rfl; have hcz63_4 : w60.cell? ⟨gb147, 4, none⟩ = some (.string x148004_2) := (blk_cell BK147.out 4).trans rfl; have hfz63_0 := blk_frozen BK147.out 0; have hfz63_1 := blk_frozen BK147.out 1; have hfz63_2 := blk_frozen BK147.out 2; have hfz63_3 := blk_frozen BK147.out 3; have hfz63_4 := blk_frozen BK147.out 4))
           refine bodyPost_ret (results_ct rfl _ _ gb147 25 #[.string t153, .slice Ao59 x150001_2.length co59, .string t163, .int .u64 t171, .string t169] (0, 0) _ rfl (by (with_reducible repeat (first | refine blk_drewN ?_ _ | refine blk_drew ?_ | refine blk_alloc ?_ _)); refine blk_put (cs := #[.string t153, .slice Ao59 x150001_2.length co59, .string t163, .int .u64 t171, .string x148004_2]) ?_ 4 _ rfl; (with_reducible repeat (first | refine blk_drewN ?_ _ | refine blk_drew ?_ | refine blk_alloc ?_ _)); refine blk_put (cs := #[.string t153, .slice Ao59 x150001_2.length co59, .string t163, .int .u64 x148003_2, .string x148004_2]) ?_ 3 _ rfl; (with_reducible repeat (first | refine blk_drewN ?_ _ | refine blk_drew ?_ | refine blk_alloc ?_ _)); refine blk_put (cs := #[.string t153, .slice Ao59 x150001_2.length co59, .string x148002_2, .int .u64 x148003_2, .string x148004_2]) ?_ 2 _ rfl; (with_reducible repeat (first | refine blk_drewN ?_ _ | refine blk_drew ?_ | refine blk_alloc ?_ _)); refine blk_put (cs := #[.string t153, .slice none 0 0, .string x148002_2, .int .u64 x148003_2, .string x148004_2]) ?_ 1 _ rfl; (with_reducible repeat (first | refine blk_drewN ?_ _ | refine blk_drew ?_ | refine blk_alloc ?_ _)); refine blk_put (cs := #[.string x148000_2, .slice none 0 0, .string x148002_2, .int .u64 x148003_2, .string x148004_2]) ?_ 0 _ rfl; (with_reducible repeat (first | refine blk_drewN ?_ _ | refine blk_drew ?_ | refine blk_alloc ?_ _)); exact BK147.out) Tryd.underlying25 rfl (by kernel_rfl)) rfl ?_
           exact ⟨_, xz_, rz_ (Kd.R_mono (Kd.R_far (p := ⟨gb147, 4, none⟩) (Kd.R_far (p := ⟨gb147, 3, none⟩) (Kd.R_far (p := ⟨gb147, 2, none⟩) (Kd.R_far (p := ⟨gb147, 1, none⟩) (Kd.R_far (p := ⟨gb147, 0, none⟩) (Kd.R_types HO_150001.out BK147.out (by decide)) (fun _ hk => hk.2) (.string t153)) (fun _ hk => hk.2) (.slice Ao59 x150001_2.length co59)) (fun _ hk => hk.2) (.string t163)) (fun _ hk => hk.2) (.int .u64 t171)) (fun _ hk => hk.2) (.string t169)) (fun _ hk => trivial)), bs3_ GE147.out GE148.out GE149.out⟩
          ·
           rw [if_neg c55] at H
           have c55b0 : (t173 == 0) = false := beq_eq_false_iff_ne.mpr c55
           have c55b1 : (t173 != 0) = true := bne_iff_ne.mpr c55
           simp only [Option.some.injEq, Prod.mk.injEq] at H
           obtain ⟨rfl, rfl, rfl, rfl, rfl, rfl⟩ := H
           have hnb64 := NB149_147.out
           have hnc64 := NB147_149.out
           have hnb65 := NB149_148.out
           have hnc65 := NB148_149.out
           have hcz66_0 : wc.cell? ⟨gb149, 0, none⟩ = some (.string t153) := (blk_cell BK149.out 0).trans rfl
           have hcz66_1 : wc.cell? ⟨gb149, 1, none⟩ = some (u150001) := (blk_cell BK149.out 1).trans rfl
           have hcz66_2 : wc.cell? ⟨gb149, 2, none⟩ = some (.string (⟨#[]⟩ : ByteArray)) := (blk_cell BK149.out 2).trans rfl
           have hcz66_3 : wc.cell? ⟨gb149, 3, none⟩ = some (.int .u64 0) := (blk_cell BK149.out 3).trans rfl
           have hcz66_4 : wc.cell? ⟨gb149, 4, none⟩ = some (.string (⟨#[]⟩ : ByteArray)) := (blk_cell BK149.out 4).trans rfl
           have hfz66_0 := blk_frozen BK149.out 0
           have hfz66_1 := blk_frozen BK149.out 1
           have hfz66_2 := blk_frozen BK149.out 2
           have hfz66_3 := blk_frozen BK149.out 3
           have hfz66_4 := blk_frozen BK149.out 4
           obtain ⟨Ao67, co67, eo67⟩ := Kd.R_slice HO_150001.out
           subst eo67
           go_wp2_with (first | ((with_reducible refine gate_callee (f := 15) rfl ?_); refine goesM_ (some 112) Tryd.func15 #[.agg #[.string t153, .slice Ao67 x150001_2.length co67, .string t163, .int .u64 t171, .string t169]] ?_; (with_reducible refine (ob_CheckCommit.calls kj42 t153 _ _ x150001_2 t163 t171 t169 t173 _ ?side1 ?side2 A54.out).mono ?_); (case side1 => refine (Kd.R_reads' (e := 9) (base := w.heap.size) (ok := fun k_ => True) (n := x150001_2.length) (c := co67) ?_).2.2; exact (rz_ ((Kd.R_mono (Kd.R_far (p := ⟨gb149, 4, none⟩) (Kd.R_far (p := ⟨gb149, 3, none⟩) (Kd.R_far (p := ⟨gb149, 2, none⟩) (Kd.R_types HO_150001.out BK149.out (by decide)) (fun _ hk => hk.2) (.string t163)) (fun _ hk => hk.2) (.int .u64 t171)) (fun _ hk => hk.2) (.string t169)) (fun _ h_ => h_.1))))); (case side2 => exact (Kd.R_reads' HO_150001.out).2.1); rintro e w68 ⟨rfl, hb⟩; refine ⟨_, rfl, ?_⟩; have n0_ := Aside0.mk (Kd.R_below (rz_ ((Kd.R_mono (Kd.R_far (p := ⟨gb149, 4, none⟩) (Kd.R_far (p := ⟨gb149, 3, none⟩) (Kd.R_far (p := ⟨gb149, 2, none⟩) (Kd.R_types HO_150001.out BK149.out (by decide)) (fun _ hk => hk.2) (.string t163)) (fun _ hk => hk.2) (.int .u64 t171)) (fun _ hk => hk.2) (.string t169)) (fun _ h_ => h_.1)))) hb); have n1_ := Aside0.mk (blk_below (g := gb147) (o := .cells #[.string x148000_2, .slice none 0 0, .string x148002_2, .int .u64 x148003_2, .string x148004_2] 25 (0, 0)) (by (with_reducible repeat (first | refine blk_drewN ?_ _ | refine blk_drew ?_ | refine blk_alloc ?_ _)); refine blk_far ?_ NB147_149.out _; (with_reducible repeat (first | refine blk_drewN ?_ _ | refine blk_drew ?_ | refine blk_alloc ?_ _)); refine blk_far ?_ NB147_149.out _; (with_reducible repeat (first | refine blk_drewN ?_ _ | refine blk_drew ?_ | refine blk_alloc ?_ _)); refine blk_far ?_ NB147_149.out _; (with_reducible repeat (first | refine blk_drewN ?_ _ | refine blk_drew ?_ | refine blk_alloc ?_ _)); exact BK147.out) hb); have n2_ := Aside0.mk (blk_below (g := gb148) (o := .cells #[.string (⟨#[]⟩ : ByteArray), .slice none 0 0, .string (⟨#[]⟩ : ByteArray), .int .u64 0, .string (⟨#[]⟩ : ByteArray)] 25 (0, 0)) (by (with_reducible repeat (first | refine blk_drewN ?_ _ | refine blk_drew ?_ | refine blk_alloc ?_ _)); refine blk_far ?_ NB148_149.out _; (with_reducible repeat (first | refine blk_drewN ?_ _ | refine blk_drew ?_ | refine blk_alloc ?_ _)); refine blk_far ?_ NB148_149.out _; (with_reducible repeat (first | refine blk_drewN ?_ _ | refine blk_drew ?_ | refine blk_alloc ?_ _)); refine blk_far ?_ NB148_149.out _; (with_reducible repeat (first | refine blk_drewN ?_ _ | refine blk_drew ?_ | refine blk_alloc ?_ _)); exact BK148.out) hb); have n3_ := Aside0.mk (blk_below (g := gb149) (o := .cells #[.string t153, .slice Ao67 x150001_2.length co67, .string t163, .int .u64 t171, .string t169] 25 (0, 0)) (by (with_reducible repeat (first | refine blk_drewN ?_ _ | refine blk_drew ?_ | refine blk_alloc ?_ _)); refine blk_put (cs := #[.string t153, .slice Ao67 x150001_2.length co67, .string t163, .int .u64 t171, .string (⟨#[]⟩ : ByteArray)]) ?_ 4 _ rfl; (with_reducible repeat (first | refine blk_drewN ?_ _ | refine blk_drew ?_ | refine blk_alloc ?_ _)); refine blk_put (cs := #[.string t153, .slice Ao67 x150001_2.length co67, .string t163, .int .u64 0, .string (⟨#[]⟩ : ByteArray)]) ?_ 3 _ rfl; (with_reducible repeat (first | refine blk_drewN ?_ _ | refine blk_drew ?_ | refine blk_alloc ?_ _)); refine blk_put (cs := #[.string t153, .slice Ao67 x150001_2.length co67, .string (⟨#[]⟩ : ByteArray), .int .u64 0, .string (⟨#[]⟩ : ByteArray)]) ?_ 2 _ rfl; (with_reducible repeat (first | refine blk_drewN ?_ _ | refine blk_drew ?_ | refine blk_alloc ?_ _)); exact BK149.out) hb); have n4_ := Aside0.mk (below_step (bs3_ GE147.out GE148.out GE149.out) hb); clear HO_150001; clear BK147; clear BK148; clear BK149; clear HB; have HO_150001 := n0_; have BK147 := n1_; have BK148 := n2_; have BK149 := n3_; have HB := n4_; clear n0_ n1_ n2_ n3_ n4_; (try clear hb); (try clear hb2); (try clear hk); (try clear hi); have hnb69 := NB148_147.out; have hnc69 := NB147_148.out; have hcz70_0 : w68.cell? ⟨gb148, 0, none⟩ = some (.string (⟨#[]⟩ : ByteArray)) := (blk_cell BK148.out 0).trans rfl; have hcz70_1 : w68.cell? ⟨gb148, 1, none⟩ = some (.slice none 0 0) := (blk_cell BK148.out 1).trans rfl; have hcz70_2 : w68.cell? ⟨gb148, 2, none⟩ = some (.string (⟨#[]⟩ : ByteArray)) := (blk_cell BK148.out 2).trans rfl; have hcz70_3 : w68.cell? ⟨gb148, 3, none⟩ = some (.int .u64 0) := (blk_cell BK148.out 3).trans rfl; have hcz70_4 : w68.cell? ⟨gb148, 4, none⟩ = some (.string (⟨#[]⟩ : ByteArray)) := (blk_cell BK148.out 4).trans rfl; have hfz70_0 := blk_frozen BK148.out 0; have hfz70_1 := blk_frozen BK148.out 1; have hfz70_2 := blk_frozen BK148.out 2; have hfz70_3 := blk_frozen BK148.out 3; have hfz70_4 := blk_frozen BK148.out 4; have hcz71_0 : w68.cell? ⟨gb147, 0, none⟩ = some (.string x148000_2) := (blk_cell BK147.out 0).trans rfl; have hcz71_1 : w68.cell? ⟨gb147, 1, none⟩ = some (.slice none 0 0) := (blk_cell BK147.out 1).trans rfl; have hcz71_2 : w68.cell? ⟨gb147, 2, none⟩ = some (.string x148002_2) := (blk_cell BK147.out 2).trans rfl; have hcz71_3 : w68.cell? ⟨gb147, 3, none⟩ = some (.int .u64 x148003_2) := (blk_cell BK147.out 3).trans rfl; have hcz71_4 : w68.cell? ⟨gb147, 4, none⟩ = some (.string x148004_2) := (blk_cell BK147.out 4).trans rfl; have hfz71_0 := blk_frozen BK147.out 0; have hfz71_1 := blk_frozen BK147.out 1; have hfz71_2 := blk_frozen BK147.out 2; have hfz71_3 := blk_frozen BK147.out 3; have hfz71_4 := blk_frozen BK147.out 4))
           refine bodyPost_ret (results_ct rfl _ _ gb147 25 #[.string (⟨#[]⟩ : ByteArray), .slice none 0 0, .string (⟨#[]⟩ : ByteArray), .int .u64 0, .string (⟨#[]⟩ : ByteArray)] (0, 0) _ rfl (by (with_reducible repeat (first | refine blk_drewN ?_ _ | refine blk_drew ?_ | refine blk_alloc ?_ _)); refine blk_put (cs := #[.string (⟨#[]⟩ : ByteArray), .slice none 0 0, .string (⟨#[]⟩ : ByteArray), .int .u64 0, .string x148004_2]) ?_ 4 _ rfl; (with_reducible repeat (first | refine blk_drewN ?_ _ | refine blk_drew ?_ | refine blk_alloc ?_ _)); refine blk_put (cs := #[.string (⟨#[]⟩ : ByteArray), .slice none 0 0, .string (⟨#[]⟩ : ByteArray), .int .u64 x148003_2, .string x148004_2]) ?_ 3 _ rfl; (with_reducible repeat (first | refine blk_drewN ?_ _ | refine blk_drew ?_ | refine blk_alloc ?_ _)); refine blk_put (cs := #[.string (⟨#[]⟩ : ByteArray), .slice none 0 0, .string x148002_2, .int .u64 x148003_2, .string x148004_2]) ?_ 2 _ rfl; (with_reducible repeat (first | refine blk_drewN ?_ _ | refine blk_drew ?_ | refine blk_alloc ?_ _)); refine blk_put (cs := #[.string (⟨#[]⟩ : ByteArray), .slice none 0 0, .string x148002_2, .int .u64 x148003_2, .string x148004_2]) ?_ 1 _ rfl; (with_reducible repeat (first | refine blk_drewN ?_ _ | refine blk_drew ?_ | refine blk_alloc ?_ _)); refine blk_put (cs := #[.string x148000_2, .slice none 0 0, .string x148002_2, .int .u64 x148003_2, .string x148004_2]) ?_ 0 _ rfl; (with_reducible repeat (first | refine blk_drewN ?_ _ | refine blk_drew ?_ | refine blk_alloc ?_ _)); exact BK147.out) Tryd.underlying25 rfl (by kernel_rfl)) rfl ?_
           exact ⟨_, xz_, nz_, bs3_ GE147.out GE148.out GE149.out⟩

end Go.Proofs.YtnapcfpecpgdbaaDoor.M
