/- The program's functions as plain functions, and that each call comes to what these tell; written by a program of this session, some contracts by hand. Conditions: none. -/
import Derived.Test.YtnapcfpecpgdbaaDoorMx0
import Derived.Test.YtnapcfpecpgdbaaDoorMx15
import Derived.Test.YtnapcfpecpgdbaaDoorMx16
import Derived.Test.YtnapcfpecpgdbaaDoorMx19
import Derived.Test.YtnapcfpecpgdbaaDoorMx20
namespace Go.Proofs.YtnapcfpecpgdbaaDoor.M
open Go.RowKit Go.Proofs.YtnapcfpecpgdbaaDoorW.PrintWords Go.Proofs.YtnapcfpecpgdbaaDoorW.PrintLast Go.Proofs.YtnapcfpecpgdbaaDoorW.PrintMore
attribute [local go_sem] max2_int min2_int max_two min_two max_three min_three max_four min_four   -- for this text's walks alone
set_option linter.unusedVariables false
set_option linter.unusedSimpArgs false

/-! ### pollardref07_GetCommit: function 8 -/
mutual
def pollardref07_GetCommit.j1 : Nat → ByteArray → Bool → ByteArray → List ByteArray → ByteArray → Int → ByteArray → Option (ByteArray × List ByteArray × ByteArray × Int × ByteArray × Int)
 | 0, _, _, _, _, _, _, _ => none
 | k + 1, x6, x7, x169000, x169001, x169002, x169003, x169004 => (pollardref07_line.f k x6 (⟨#[97, 117, 116, 104, 111, 114]⟩ : ByteArray)).bind fun bt182 => ((pollardref07_line.f k bt182.2.1 (⟨#[116, 105, 109, 101]⟩ : ByteArray)).bind fun bt185 => ((pollardref02_Undec.f k bt185.1).bind fun bt188 => (if x7 = true then (if bt182.2.2 = true then (if bt185.2.2 = true then (if (x169000.size : Int) = 32 then (if bt188.2 = 0 then (if (bt185.2.1.size : Int) = 0 then (pollardref07_GetCommit.j2 k bt185.2.1 bt182.1 bt188.1 true x169000 x169001 x169002 x169003 x169004) else (if 0 < (bt185.2.1.size : Int) then (pollardref07_GetCommit.j2 k bt185.2.1 bt182.1 bt188.1 ((bt bt185.2.1 0) != 10) x169000 x169001 x169002 x169003 x169004) else (none))) else (pollardref07_GetCommit.j2 k bt185.2.1 bt182.1 bt188.1 true x169000 x169001 x169002 x169003 x169004)) else (pollardref07_GetCommit.j2 k bt185.2.1 bt182.1 bt188.1 true x169000 x169001 x169002 x169003 x169004)) else (pollardref07_GetCommit.j2 k bt185.2.1 bt182.1 bt188.1 true x169000 x169001 x169002 x169003 x169004)) else (pollardref07_GetCommit.j2 k bt185.2.1 bt182.1 bt188.1 true x169000 x169001 x169002 x169003 x169004)) else (pollardref07_GetCommit.j2 k bt185.2.1 bt182.1 bt188.1 true x169000 x169001 x169002 x169003 x169004))))
def pollardref07_GetCommit.j2 : Nat → ByteArray → ByteArray → Int → Bool → ByteArray → List ByteArray → ByteArray → Int → ByteArray → Option (ByteArray × List ByteArray × ByteArray × Int × ByteArray × Int)
 | 0, _, _, _, _, _, _, _, _, _ => none
 | k + 1, x6, x13, x17, x103, x169000, x169001, x169002, x169003, x169004 => if x103 = true then (some ((⟨#[]⟩ : ByteArray), ([] : List ByteArray), (⟨#[]⟩ : ByteArray), 0, (⟨#[]⟩ : ByteArray), 6)) else (if 1 ≤ (x6.size : Int) then ((pollardref07_CheckCommit.f k x169000 x169001 x13 x17 (x6.extract 1 x6.size)).bind fun t190 => (if t190 = 0 then (some (x169000, x169001, x13, x17, x6.extract 1 x6.size, 0)) else (some ((⟨#[]⟩ : ByteArray), ([] : List ByteArray), (⟨#[]⟩ : ByteArray), 0, (⟨#[]⟩ : ByteArray), t190)))) else (none))
def pollardref07_GetCommit.l0 : Nat → ByteArray → Bool → ByteArray → List ByteArray → ByteArray → Int → ByteArray → Option (ByteArray × List ByteArray × ByteArray × Int × ByteArray × Int)
 | 0, _, _, _, _, _, _, _ => none
 | k + 1, x6, x7, x169000, x169001, x169002, x169003, x169004 => if x7 = true then ((pollardref07_line.f k x6 (⟨#[112, 97, 114, 101, 110, 116]⟩ : ByteArray)).bind fun bt174 => (if bt174.2.2 = true then ((pollardref07_id.f k bt174.1).bind fun bt177 => (if bt177.2 = true then (if x169001.length < 8796093022208 then (pollardref07_GetCommit.l0 k bt174.2.1 x7 x169000 (x169001 ++ [bt177.1]) x169002 x169003 x169004) else (none)) else (some ((⟨#[]⟩ : ByteArray), ([] : List ByteArray), (⟨#[]⟩ : ByteArray), 0, (⟨#[]⟩ : ByteArray), 6)))) else (pollardref07_GetCommit.j1 k x6 x7 x169000 x169001 x169002 x169003 x169004))) else (pollardref07_GetCommit.j1 k x6 x7 x169000 x169001 x169002 x169003 x169004)
end
def pollardref07_GetCommit.f (k : Nat) (a0 : ByteArray) : Option (ByteArray × List ByteArray × ByteArray × Int × ByteArray × Int) := (pollardref07_line.f k a0 (⟨#[116, 114, 101, 101]⟩ : ByteArray)).bind fun bt169 => ((pollardref07_id.f k bt169.1).bind fun bt172 => (pollardref07_GetCommit.l0 k bt169.2.1 bt169.2.2 bt172.1 ([] : List ByteArray) (⟨#[]⟩ : ByteArray) 0 (⟨#[]⟩ : ByteArray)))
theorem pollardref07_GetCommit.mono_l : ∀ k, (∀ y0 y1 y2 y3 y4 y5 y6, LeO (pollardref07_GetCommit.j1 k y0 y1 y2 y3 y4 y5 y6) (pollardref07_GetCommit.j1 (k + 1) y0 y1 y2 y3 y4 y5 y6)) ∧ (∀ y0 y1 y2 y3 y4 y5 y6 y7 y8, LeO (pollardref07_GetCommit.j2 k y0 y1 y2 y3 y4 y5 y6 y7 y8) (pollardref07_GetCommit.j2 (k + 1) y0 y1 y2 y3 y4 y5 y6 y7 y8)) ∧ (∀ y0 y1 y2 y3 y4 y5 y6, LeO (pollardref07_GetCommit.l0 k y0 y1 y2 y3 y4 y5 y6) (pollardref07_GetCommit.l0 (k + 1) y0 y1 y2 y3 y4 y5 y6))
 | 0 => ⟨fun _ _ _ _ _ _ _ r h => by simp [pollardref07_GetCommit.j1] at h, fun _ _ _ _ _ _ _ _ _ r h => by simp [pollardref07_GetCommit.j2] at h, fun _ _ _ _ _ _ _ r h => by simp [pollardref07_GetCommit.l0] at h⟩
 | k + 1 => by
  obtain ⟨ih0, ih1, ih2⟩ := pollardref07_GetCommit.mono_l k
  refine ⟨?_, ?_, ?_⟩
  ·
   intro y0 y1 y2 y3 y4 y5 y6
   unfold pollardref07_GetCommit.j1
   repeat' first
   | (with_reducible exact ih0 _ _ _ _ _ _ _)
   | (with_reducible exact ih1 _ _ _ _ _ _ _ _ _)
   | (with_reducible exact ih2 _ _ _ _ _ _ _)
   | (with_reducible exact pollardref02_Undec.mono _ _)
   | (with_reducible exact pollardref07_CheckCommit.mono _ _ _ _ _ _)
   | (with_reducible exact pollardref07_id.mono _ _)
   | (with_reducible exact pollardref07_line.mono _ _ _)
   | (with_reducible exact LeO.refl _)
   | (with_reducible exact LeO.none _)
   | (with_reducible refine LeO.ite ?_ ?_)
   | (with_reducible refine LeO.bind ?_ (fun _ => ?_))
   | exact ih0 _ _ _ _ _ _ _
   | exact ih1 _ _ _ _ _ _ _ _ _
   | exact ih2 _ _ _ _ _ _ _
   | exact pollardref02_Undec.mono _ _
   | exact pollardref07_CheckCommit.mono _ _ _ _ _ _
   | exact pollardref07_id.mono _ _
   | exact pollardref07_line.mono _ _ _
   | exact LeO.none _
   | refine LeO.ite ?_ ?_
   | refine LeO.bind ?_ (fun _ => ?_)
  ·
   intro y0 y1 y2 y3 y4 y5 y6 y7 y8
   unfold pollardref07_GetCommit.j2
   repeat' first
   | (with_reducible exact ih0 _ _ _ _ _ _ _)
   | (with_reducible exact ih1 _ _ _ _ _ _ _ _ _)
   | (with_reducible exact ih2 _ _ _ _ _ _ _)
   | (with_reducible exact pollardref02_Undec.mono _ _)
   | (with_reducible exact pollardref07_CheckCommit.mono _ _ _ _ _ _)
   | (with_reducible exact pollardref07_id.mono _ _)
   | (with_reducible exact pollardref07_line.mono _ _ _)
   | (with_reducible exact LeO.refl _)
   | (with_reducible exact LeO.none _)
   | (with_reducible refine LeO.ite ?_ ?_)
   | (with_reducible refine LeO.bind ?_ (fun _ => ?_))
   | exact ih0 _ _ _ _ _ _ _
   | exact ih1 _ _ _ _ _ _ _ _ _
   | exact ih2 _ _ _ _ _ _ _
   | exact pollardref02_Undec.mono _ _
   | exact pollardref07_CheckCommit.mono _ _ _ _ _ _
   | exact pollardref07_id.mono _ _
   | exact pollardref07_line.mono _ _ _
   | exact LeO.none _
   | refine LeO.ite ?_ ?_
   | refine LeO.bind ?_ (fun _ => ?_)
  ·
   intro y0 y1 y2 y3 y4 y5 y6
   unfold pollardref07_GetCommit.l0
   repeat' first
   | (with_reducible exact ih0 _ _ _ _ _ _ _)
   | (with_reducible exact ih1 _ _ _ _ _ _ _ _ _)
   | (with_reducible exact ih2 _ _ _ _ _ _ _)
   | (with_reducible exact pollardref02_Undec.mono _ _)
   | (with_reducible exact pollardref07_CheckCommit.mono _ _ _ _ _ _)
   | (with_reducible exact pollardref07_id.mono _ _)
   | (with_reducible exact pollardref07_line.mono _ _ _)
   | (with_reducible exact LeO.refl _)
   | (with_reducible exact LeO.none _)
   | (with_reducible refine LeO.ite ?_ ?_)
   | (with_reducible refine LeO.bind ?_ (fun _ => ?_))
   | exact ih0 _ _ _ _ _ _ _
   | exact ih1 _ _ _ _ _ _ _ _ _
   | exact ih2 _ _ _ _ _ _ _
   | exact pollardref02_Undec.mono _ _
   | exact pollardref07_CheckCommit.mono _ _ _ _ _ _
   | exact pollardref07_id.mono _ _
   | exact pollardref07_line.mono _ _ _
   | exact LeO.none _
   | refine LeO.ite ?_ ?_
   | refine LeO.bind ?_ (fun _ => ?_)
theorem pollardref07_GetCommit.mono : ∀ a0 k, LeO (pollardref07_GetCommit.f k a0) (pollardref07_GetCommit.f (k + 1) a0) := by
 intro a0 k
 obtain ⟨ih0, ih1, ih2⟩ := pollardref07_GetCommit.mono_l k
 unfold pollardref07_GetCommit.f
 repeat' first
  | (with_reducible exact ih0 _ _ _ _ _ _ _)
  | (with_reducible exact ih1 _ _ _ _ _ _ _ _ _)
  | (with_reducible exact ih2 _ _ _ _ _ _ _)
  | (with_reducible exact pollardref02_Undec.mono _ _)
  | (with_reducible exact pollardref07_CheckCommit.mono _ _ _ _ _ _)
  | (with_reducible exact pollardref07_id.mono _ _)
  | (with_reducible exact pollardref07_line.mono _ _ _)
  | (with_reducible exact LeO.refl _)
  | (with_reducible exact LeO.none _)
  | (with_reducible refine LeO.ite ?_ ?_)
  | (with_reducible refine LeO.bind ?_ (fun _ => ?_))
  | exact ih0 _ _ _ _ _ _ _
  | exact ih1 _ _ _ _ _ _ _ _ _
  | exact ih2 _ _ _ _ _ _ _
  | exact pollardref02_Undec.mono _ _
  | exact pollardref07_CheckCommit.mono _ _ _ _ _ _
  | exact pollardref07_id.mono _ _
  | exact pollardref07_line.mono _ _ _
  | exact LeO.none _
  | refine LeO.ite ?_ ?_
  | refine LeO.bind ?_ (fun _ => ?_)
def pollardref07_GetCommit.T16 : Bool × List (List Nat × List Nat) := (true, [([], []), ([], []), ([], []), ([2], [2]), ([0], []), ([4, 0, 0], [0, 4]), ([0, 1, 4, 5], []), ([6, 1, 5, 0, 1, 4, 5], [1, 6]), ([0, 1, 2, 3, 4, 5, 6, 7], []), ([8, 3, 7, 0, 1, 2, 3, 4, 5, 6, 7], [3, 8])])
def pollardref07_GetCommit.B16 : List Nat := [0, 0, 0, 4, 1, 17, 51, 115, 255, 511]
theorem pollardref07_GetCommit.tab16 : rtab .any (opsOf Tryd.f8 16) = pollardref07_GetCommit.T16 := by kernel_rfl
theorem pollardref07_GetCommit.bits16 : waitsOk pollardref07_GetCommit.T16.2 pollardref07_GetCommit.B16 = true := by kernel_rfl
set_option maxHeartbeats 8000000 in
set_option maxRecDepth 100000 in
theorem pollardref07_GetCommit.calls (k : Nat) (a0 : ByteArray) (r1 : ByteArray) (r2 : List ByteArray) (r3 : ByteArray) (r4 : Int) (r5 : ByteArray) (r6 : Int) (w : World) (h : pollardref07_GetCommit.f k a0 = some (r1, r2, r3, r4, r5, r6)) :
 Calls Tryd.prog 8 #[.string a0] w fun e w' => ∃ v1_ : Value, e = .returned (.tuple #[.agg #[.string r1, v1_, .string r3, .int .u64 r4, .string r5], .int .i64 r6]) ∧ Kd.R Kd.string 9 w' w.heap.size (fun _ => True) v1_ r2 ∧ Below w.heap.size w w' := by
 have hu30 := Tryd.underlying30
 have HB := Aside0.mk (Below.refl w.heap.size w)
 have H : ((pollardref07_line.f k a0 (⟨#[116, 114, 101, 101]⟩ : ByteArray)).bind fun bt169 => ((pollardref07_id.f k bt169.1).bind fun bt172 => (pollardref07_GetCommit.l0 k bt169.2.1 bt169.2.2 bt172.1 ([] : List ByteArray) (⟨#[]⟩ : ByteArray) 0 (⟨#[]⟩ : ByteArray)))) = some (r1, r2, r3, r4, r5, r6) := h
 clear h
 replace H := Option.bind_eq_some_iff.mp H
 obtain ⟨⟨t169, t170, t171⟩, A20, H⟩ := H
 replace H : ((pollardref07_id.f k t169).bind fun bt172 => (pollardref07_GetCommit.l0 k t170 t171 bt172.1 ([] : List ByteArray) (⟨#[]⟩ : ByteArray) 0 (⟨#[]⟩ : ByteArray))) = some (r1, r2, r3, r4, r5, r6) := H
 have A2 := Aside0.mk A20
 clear A20
 replace H := Option.bind_eq_some_iff.mp H
 obtain ⟨⟨t172, t173⟩, A30, H⟩ := H
 replace H : (pollardref07_GetCommit.l0 k t170 t171 t172 ([] : List ByteArray) (⟨#[]⟩ : ByteArray) 0 (⟨#[]⟩ : ByteArray)) = some (r1, r2, r3, r4, r5, r6) := H
 have A3 := Aside0.mk A30
 clear A30
 have HC4 := Aside0.mk H
 clear H
 go_enter Tryd.func8, Tryd.ntmps8
 go_upto_block 0 with (first | ((with_reducible refine gate_dst (N := 2) rfl ?_); (try (refine gate_guard (by rfl) ?_; dsimp only)); refine box_event ?hg (N := 2) ?hd (cs := #[.string (⟨#[]⟩ : ByteArray), .slice none 0 0, .string (⟨#[]⟩ : ByteArray), .int .u64 0, .string (⟨#[]⟩ : ByteArray)]) (t := 30) ?hr ?_; (case hd => rfl); (case hg => rfl); (case hr => first | (go_simp; done) | (go_simp; rfl) | (go_simp; simp only [show ∀ x_ : Int, IntKind.u8.wrap x_ = x_ % 256 from fun _ => rfl, Int.add_emod_emod, Int.emod_add_emod, Int.emod_emod]; done)); intro gb167 hg w5 hbox hb; have n0_ := Aside0.mk (below_step (by repeat (first | (with_reducible first | exact HB.out | apply below_alloc | apply pw_below_drewN | apply below_drew1) | exact HB.out)) hb); have n1_ := Aside0.mk (hbox); have n2_ := Aside0.mk ((by rw [hg]; exact (below_size (by repeat (first | (with_reducible first | exact HB.out | apply below_alloc | apply pw_below_drewN | apply below_drew1) | exact HB.out))) : w.heap.size ≤ gb167)); have n3_ := Aside0.mk ((by rw [hg]; exact (below_size (by repeat (first | (with_reducible first | exact HB.out | apply below_alloc | apply pw_below_drewN | apply below_drew1) | exact HB.out))) : w.heap.size ≤ gb167)); clear HB; have HB := n0_; have BK167 := n1_; have GW167 := n2_; have GE167 := n3_; clear n0_ n1_ n2_ n3_; clear hb hbox hg) | ((with_reducible refine gate_dst (N := 4) rfl ?_); (try (refine gate_guard (by rfl) ?_; dsimp only)); refine box_event ?hg (N := 4) ?hd (cs := #[.string (⟨#[]⟩ : ByteArray), .slice none 0 0, .string (⟨#[]⟩ : ByteArray), .int .u64 0, .string (⟨#[]⟩ : ByteArray)]) (t := 30) ?hr ?_; (case hd => rfl); (case hg => rfl); (case hr => first | (go_simp; done) | (go_simp; rfl) | (go_simp; simp only [show ∀ x_ : Int, IntKind.u8.wrap x_ = x_ % 256 from fun _ => rfl, Int.add_emod_emod, Int.emod_add_emod, Int.emod_emod]; done)); intro gb168 hg w6 hbox hb; have n0_ := Aside0.mk (blk_below (g := gb167) (o := .cells #[.string (⟨#[]⟩ : ByteArray), .slice none 0 0, .string (⟨#[]⟩ : ByteArray), .int .u64 0, .string (⟨#[]⟩ : ByteArray)] 30 (0, 0)) (by (with_reducible repeat (first | refine blk_drewN ?_ _ | refine blk_drew ?_ | refine blk_alloc ?_ _)); exact BK167.out) hb); have n1_ := Aside0.mk (below_step (by repeat (first | (with_reducible first | exact HB.out | apply below_alloc | apply pw_below_drewN | apply below_drew1 | refine below_set ?_ GE167.out) | exact HB.out)) hb); have n2_ := Aside0.mk (hbox); have n3_ := Aside0.mk ((by rw [hg]; exact (below_size (by repeat (first | (with_reducible first | exact HB.out | apply below_alloc | apply pw_below_drewN | apply below_drew1 | refine below_set ?_ GE167.out) | exact HB.out))) : w.heap.size ≤ gb168)); have n4_ := Aside0.mk ((by rw [hg]; exact (below_size (by repeat (first | (with_reducible first | exact HB.out | apply below_alloc | apply pw_below_drewN | apply below_drew1 | refine below_set ?_ GE167.out) | exact HB.out))) : w.heap.size ≤ gb168)); have n5_ := Aside0.mk ((by rw [hg]; exact Nat.ne_of_lt (blk_lt (g := gb167) (o := .cells #[.string (⟨#[]⟩ : ByteArray), .slice none 0 0, .string (⟨#[]⟩ : ByteArray), .int .u64 0, .string (⟨#[]⟩ : ByteArray)] 30 (0, 0)) (by (with_reducible repeat (first | refine blk_drewN ?_ _ | refine blk_drew ?_ | refine blk_alloc ?_ _)); exact BK167.out)) : gb167 ≠ gb168)); have n6_ := Aside0.mk ((by rw [hg]; exact Nat.ne_of_gt (blk_lt (g := gb167) (o := .cells #[.string (⟨#[]⟩ : ByteArray), .slice none 0 0, .string (⟨#[]⟩ : ByteArray), .int .u64 0, .string (⟨#[]⟩ : ByteArray)] 30 (0, 0)) (by (with_reducible repeat (first | refine blk_drewN ?_ _ | refine blk_drew ?_ | refine blk_alloc ?_ _)); exact BK167.out)) : gb168 ≠ gb167)); clear BK167; clear HB; have BK167 := n0_; have HB := n1_; have BK168 := n2_; have GW168 := n3_; have GE168 := n4_; have NB167_168 := n5_; have NB168_167 := n6_; clear n0_ n1_ n2_ n3_ n4_ n5_ n6_; clear hb hbox hg; have hnb7 := NB168_167.out; have hnc7 := NB167_168.out; have hcz8_0 : w6.cell? ⟨gb168, 0, none⟩ = some (.string (⟨#[]⟩ : ByteArray)) := (blk_cell BK168.out 0).trans rfl; have hcz8_1 : w6.cell? ⟨gb168, 1, none⟩ = some (.slice none 0 0) := (blk_cell BK168.out 1).trans rfl; have hcz8_2 : w6.cell? ⟨gb168, 2, none⟩ = some (.string (⟨#[]⟩ : ByteArray)) := (blk_cell BK168.out 2).trans rfl; have hcz8_3 : w6.cell? ⟨gb168, 3, none⟩ = some (.int .u64 0) := (blk_cell BK168.out 3).trans rfl; have hcz8_4 : w6.cell? ⟨gb168, 4, none⟩ = some (.string (⟨#[]⟩ : ByteArray)) := (blk_cell BK168.out 4).trans rfl; have hfz8_0 := blk_frozen BK168.out 0; have hfz8_1 := blk_frozen BK168.out 1; have hfz8_2 := blk_frozen BK168.out 2; have hfz8_3 := blk_frozen BK168.out 3; have hfz8_4 := blk_frozen BK168.out 4) | ((with_reducible refine gate_callee (f := 24) rfl ?_); refine goesL_ (some 23) rfl rfl Tryd.func24 (by kernel_rfl) rfl #[.string a0, .string (⟨#[116, 114, 101, 101]⟩ : ByteArray)] rfl (by (try simp only [List.map_toArray, List.map_cons, List.map_nil]); first | done | rfl | (simp only [List.length_drop, List.length_take]; rfl)) ?_; (with_reducible refine (pollardref07_line.calls k a0 (⟨#[116, 114, 101, 101]⟩ : ByteArray) t169 t170 t171 _ A2.out).mono ?_); rintro e w' ⟨rfl, ⟨nd, rfl⟩⟩; refine ⟨_, rfl, ?_⟩) | ((with_reducible refine gate_callee (f := 25) rfl ?_); refine goesL_ (some 29) rfl rfl Tryd.func25 (by kernel_rfl) rfl #[.string t169] rfl (by (try simp only [List.map_toArray, List.map_cons, List.map_nil]); first | done | rfl | (simp only [List.length_drop, List.length_take]; rfl)) ?_; (with_reducible refine (pollardref07_id.calls k t169 t172 t173 _ A3.out).mono ?_); rintro e w9 ⟨rfl, hb⟩; refine ⟨_, rfl, ?_⟩; have n0_ := Aside0.mk (blk_below (g := gb167) (o := .cells #[.string (⟨#[]⟩ : ByteArray), .slice none 0 0, .string (⟨#[]⟩ : ByteArray), .int .u64 0, .string (⟨#[]⟩ : ByteArray)] 30 (0, 0)) (by (with_reducible repeat (first | refine blk_drewN ?_ _ | refine blk_drew ?_ | refine blk_alloc ?_ _)); refine blk_far ?_ NB167_168.out _; (with_reducible repeat (first | refine blk_drewN ?_ _ | refine blk_drew ?_ | refine blk_alloc ?_ _)); refine blk_far ?_ NB167_168.out _; (with_reducible repeat (first | refine blk_drewN ?_ _ | refine blk_drew ?_ | refine blk_alloc ?_ _)); refine blk_far ?_ NB167_168.out _; (with_reducible repeat (first | refine blk_drewN ?_ _ | refine blk_drew ?_ | refine blk_alloc ?_ _)); refine blk_far ?_ NB167_168.out _; (with_reducible repeat (first | refine blk_drewN ?_ _ | refine blk_drew ?_ | refine blk_alloc ?_ _)); refine blk_far ?_ NB167_168.out _; (with_reducible repeat (first | refine blk_drewN ?_ _ | refine blk_drew ?_ | refine blk_alloc ?_ _)); exact BK167.out) hb); have n1_ := Aside0.mk (blk_below (g := gb168) (o := .cells #[.string (⟨#[]⟩ : ByteArray), .slice none 0 0, .string (⟨#[]⟩ : ByteArray), .int .u64 0, .string (⟨#[]⟩ : ByteArray)] 30 (0, 0)) (by (with_reducible repeat (first | refine blk_drewN ?_ _ | refine blk_drew ?_ | refine blk_alloc ?_ _)); refine blk_put (cs := #[.string (⟨#[]⟩ : ByteArray), .slice none 0 0, .string (⟨#[]⟩ : ByteArray), .int .u64 0, .string (⟨#[]⟩ : ByteArray)]) ?_ 4 _ rfl; (with_reducible repeat (first | refine blk_drewN ?_ _ | refine blk_drew ?_ | refine blk_alloc ?_ _)); refine blk_put (cs := #[.string (⟨#[]⟩ : ByteArray), .slice none 0 0, .string (⟨#[]⟩ : ByteArray), .int .u64 0, .string (⟨#[]⟩ : ByteArray)]) ?_ 3 _ rfl; (with_reducible repeat (first | refine blk_drewN ?_ _ | refine blk_drew ?_ | refine blk_alloc ?_ _)); refine blk_put (cs := #[.string (⟨#[]⟩ : ByteArray), .slice none 0 0, .string (⟨#[]⟩ : ByteArray), .int .u64 0, .string (⟨#[]⟩ : ByteArray)]) ?_ 2 _ rfl; (with_reducible repeat (first | refine blk_drewN ?_ _ | refine blk_drew ?_ | refine blk_alloc ?_ _)); refine blk_put (cs := #[.string (⟨#[]⟩ : ByteArray), .slice none 0 0, .string (⟨#[]⟩ : ByteArray), .int .u64 0, .string (⟨#[]⟩ : ByteArray)]) ?_ 1 _ rfl; (with_reducible repeat (first | refine blk_drewN ?_ _ | refine blk_drew ?_ | refine blk_alloc ?_ _)); refine blk_put (cs := #[.string (⟨#[]⟩ : ByteArray), .slice none 0 0, .string (⟨#[]⟩ : ByteArray), .int .u64 0, .string (⟨#[]⟩ : ByteArray)]) ?_ 0 _ rfl; (with_reducible repeat (first | refine blk_drewN ?_ _ | refine blk_drew ?_ | refine blk_alloc ?_ _)); exact BK168.out) hb); have n2_ := Aside0.mk (below_step (by repeat (first | (with_reducible first | exact HB.out | apply below_alloc | apply pw_below_drewN | apply below_drew1 | refine below_set ?_ GE167.out | refine below_set ?_ GE168.out) | exact HB.out)) hb); clear BK167; clear BK168; clear HB; have BK167 := n0_; have BK168 := n1_; have HB := n2_; clear n0_ n1_ n2_; (try clear hb); (try clear hb2); (try clear hk); (try clear hi); have hcz10_0 : w9.cell? ⟨gb168, 0, none⟩ = some (.string (⟨#[]⟩ : ByteArray)) := (blk_cell BK168.out 0).trans rfl; have hcz10_1 : w9.cell? ⟨gb168, 1, none⟩ = some (.slice none 0 0) := (blk_cell BK168.out 1).trans rfl; have hcz10_2 : w9.cell? ⟨gb168, 2, none⟩ = some (.string (⟨#[]⟩ : ByteArray)) := (blk_cell BK168.out 2).trans rfl; have hcz10_3 : w9.cell? ⟨gb168, 3, none⟩ = some (.int .u64 0) := (blk_cell BK168.out 3).trans rfl; have hcz10_4 : w9.cell? ⟨gb168, 4, none⟩ = some (.string (⟨#[]⟩ : ByteArray)) := (blk_cell BK168.out 4).trans rfl; have hfz10_0 := blk_frozen BK168.out 0; have hfz10_1 := blk_frozen BK168.out 1; have hfz10_2 := blk_frozen BK168.out 2; have hfz10_3 := blk_frozen BK168.out 3; have hfz10_4 := blk_frozen BK168.out 4))
 (try simp only [Act.put, List.setIfInBounds_toArray, List.set_cons_zero, List.set_cons_succ])
 go_cut [6] (fun v6 wc => ∃ (kq : Nat) (x6_3 : ByteArray) (x168000_3 : ByteArray) (x168002_3 : ByteArray) (x168003_3 : Int) (x168004_3 : ByteArray) (x169001_3 : List ByteArray) (u169001 : Value), v6 = .string x6_3 ∧ Aside0 (pollardref07_GetCommit.j1 kq x6_3 t171 t172 x169001_3 (⟨#[]⟩ : ByteArray) 0 (⟨#[]⟩ : ByteArray) = some (r1, r2, r3, r4, r5, r6)) ∧ Aside0 (kq ≤ k) ∧ Aside0 (Kd.R Kd.string 9 wc w.heap.size (fun _ => True) u169001 x169001_3) ∧ Aside0 (wc.heap[gb167]? = some (.cells #[.string x168000_3, (.slice none 0 0), .string x168002_3, .int .u64 x168003_3, .string x168004_3] 30 (0, 0))) ∧ Aside0 (wc.heap[gb168]? = some (.cells #[.string t172, u169001, .string (⟨#[]⟩ : ByteArray), .int .u64 0, .string (⟨#[]⟩ : ByteArray)] 30 (0, 0))) ∧ Aside0 (Below w.heap.size w wc))
 case first =>
  have H := HC4.out
  clear HC4
  have H' := Aside0.mk H
  clear H
  go_wp2
  go_loopg [6] k (fun kq v6 w' => ∃ (x6_1 : ByteArray) (x168000_1 : ByteArray) (x168002_1 : ByteArray) (x168003_1 : Int) (x168004_1 : ByteArray) (x169001_1 : List ByteArray) (u169001 : Value), v6 = .string x6_1 ∧ Aside0 (pollardref07_GetCommit.l0 kq x6_1 t171 t172 x169001_1 (⟨#[]⟩ : ByteArray) 0 (⟨#[]⟩ : ByteArray) = some (r1, r2, r3, r4, r5, r6)) ∧ Aside0 (kq ≤ k) ∧ Aside0 (Kd.R Kd.string 9 w' w.heap.size (fun _ => True) u169001 x169001_1) ∧ Aside0 (w'.heap[gb167]? = some (.cells #[.string x168000_1, (.slice none 0 0), .string x168002_1, .int .u64 x168003_1, .string x168004_1] 30 (0, 0))) ∧ Aside0 (w'.heap[gb168]? = some (.cells #[.string t172, u169001, .string (⟨#[]⟩ : ByteArray), .int .u64 0, .string (⟨#[]⟩ : ByteArray)] 30 (0, 0))) ∧ Aside0 (Below w.heap.size w w'))
  case atStart => exact ⟨(t170), ((⟨#[]⟩ : ByteArray)), ((⟨#[]⟩ : ByteArray)), (0), ((⟨#[]⟩ : ByteArray)), (([] : List ByteArray)), (.slice none 0 0), (by first | rfl | (simp; done) | (simp [*]; done)), H', ⟨Nat.le_refl _⟩, ⟨by first | exact Kd.R_nil _ _ _ _ _ | exact Kd.N_nil _ _ _ _ _ | exact Kd.V_nil _ _ _ _ _ | exact Kd.Q_nil _ _ _ _ _ | exact Kd.S_nil _ _ _ _ _⟩, ⟨by (with_reducible repeat (first | refine blk_drewN ?_ _ | refine blk_drew ?_ | refine blk_alloc ?_ _)); refine blk_far ?_ NB167_168.out _; (with_reducible repeat (first | refine blk_drewN ?_ _ | refine blk_drew ?_ | refine blk_alloc ?_ _)); exact BK167.out⟩, ⟨by (with_reducible repeat (first | refine blk_drewN ?_ _ | refine blk_drew ?_ | refine blk_alloc ?_ _)); refine blk_put (cs := #[.string (⟨#[]⟩ : ByteArray), .slice none 0 0, .string (⟨#[]⟩ : ByteArray), .int .u64 0, .string (⟨#[]⟩ : ByteArray)]) ?_ 0 _ rfl; (with_reducible repeat (first | refine blk_drewN ?_ _ | refine blk_drew ?_ | refine blk_alloc ?_ _)); exact BK168.out⟩, ⟨by repeat (first | (with_reducible first | exact HB.out | apply below_alloc | apply pw_below_drewN | apply below_drew1 | refine below_set ?_ GE167.out | refine below_set ?_ GE168.out) | exact HB.out)⟩⟩
  case round =>
   clear H'
   try clear c2
   try clear p2
   try clear c7
   try clear c8
   try clear hcz10_0
   try clear hcz10_1
   try clear hcz10_2
   try clear hcz10_3
   try clear hcz10_4
   try clear hcz8_0
   try clear hcz8_1
   try clear hcz8_2
   try clear hcz8_3
   try clear hcz8_4
   try clear hfz10_0
   try clear hfz10_1
   try clear hfz10_2
   try clear hfz10_3
   try clear hfz10_4
   try clear hfz8_0
   try clear hfz8_1
   try clear hfz8_2
   try clear hfz8_3
   try clear hfz8_4
   obtain ⟨x6_1, x168000_1, x168002_1, x168003_1, x168004_1, x169001_1, u169001, rfl, HA, HK1, HO_169001, BK167, BK168, HB⟩ := hrel
   cases gk with
   | zero => exact absurd HA.out (by simp [pollardref07_GetCommit.l0])
   | succ k1 =>
    have H := HA.out
    clear HA
    simp only [pollardref07_GetCommit.l0] at H
    by_cases c11 : t171 = true
    ·
     subst c11
     have H1 : ((pollardref07_line.f k1 x6_1 (⟨#[112, 97, 114, 101, 110, 116]⟩ : ByteArray)).bind fun bt174 => (if bt174.2.2 = true then ((pollardref07_id.f k1 bt174.1).bind fun bt177 => (if bt177.2 = true then (if x169001_1.length < 8796093022208 then (pollardref07_GetCommit.l0 k1 bt174.2.1 true t172 (x169001_1 ++ [bt177.1]) (⟨#[]⟩ : ByteArray) 0 (⟨#[]⟩ : ByteArray)) else (none)) else (some ((⟨#[]⟩ : ByteArray), ([] : List ByteArray), (⟨#[]⟩ : ByteArray), 0, (⟨#[]⟩ : ByteArray), 6)))) else (pollardref07_GetCommit.j1 k1 x6_1 true t172 x169001_1 (⟨#[]⟩ : ByteArray) 0 (⟨#[]⟩ : ByteArray)))) = some (r1, r2, r3, r4, r5, r6) := by rw [if_pos rfl] at H; exact H
     clear H
     have H := H1
     clear H1
     replace H := Option.bind_eq_some_iff.mp H
     obtain ⟨⟨t174, t175, t176⟩, A120, H⟩ := H
     replace H : (if t176 = true then ((pollardref07_id.f k1 t174).bind fun bt177 => (if bt177.2 = true then (if x169001_1.length < 8796093022208 then (pollardref07_GetCommit.l0 k1 t175 true t172 (x169001_1 ++ [bt177.1]) (⟨#[]⟩ : ByteArray) 0 (⟨#[]⟩ : ByteArray)) else (none)) else (some ((⟨#[]⟩ : ByteArray), ([] : List ByteArray), (⟨#[]⟩ : ByteArray), 0, (⟨#[]⟩ : ByteArray), 6)))) else (pollardref07_GetCommit.j1 k1 x6_1 true t172 x169001_1 (⟨#[]⟩ : ByteArray) 0 (⟨#[]⟩ : ByteArray))) = some (r1, r2, r3, r4, r5, r6) := H
     have A12 := Aside0.mk A120
     clear A120
     by_cases c13 : t176 = true
     ·
      subst c13
      have H1 : ((pollardref07_id.f k1 t174).bind fun bt177 => (if bt177.2 = true then (if x169001_1.length < 8796093022208 then (pollardref07_GetCommit.l0 k1 t175 true t172 (x169001_1 ++ [bt177.1]) (⟨#[]⟩ : ByteArray) 0 (⟨#[]⟩ : ByteArray)) else (none)) else (some ((⟨#[]⟩ : ByteArray), ([] : List ByteArray), (⟨#[]⟩ : ByteArray), 0, (⟨#[]⟩ : ByteArray), 6)))) = some (r1, r2, r3, r4, r5, r6) := by rw [if_pos rfl] at H; exact H
      clear H
      have H := H1
      clear H1
      replace H := Option.bind_eq_some_iff.mp H
      obtain ⟨⟨t177, t178⟩, A140, H⟩ := H
      replace H : (if t178 = true then (if x169001_1.length < 8796093022208 then (pollardref07_GetCommit.l0 k1 t175 true t172 (x169001_1 ++ [t177]) (⟨#[]⟩ : ByteArray) 0 (⟨#[]⟩ : ByteArray)) else (none)) else (some ((⟨#[]⟩ : ByteArray), ([] : List ByteArray), (⟨#[]⟩ : ByteArray), 0, (⟨#[]⟩ : ByteArray), 6))) = some (r1, r2, r3, r4, r5, r6) := H
      have A14 := Aside0.mk A140
      clear A140
      by_cases c15 : t178 = true
      ·
       subst c15
       have H1 : (if x169001_1.length < 8796093022208 then (pollardref07_GetCommit.l0 k1 t175 true t172 (x169001_1 ++ [t177]) (⟨#[]⟩ : ByteArray) 0 (⟨#[]⟩ : ByteArray)) else (none)) = some (r1, r2, r3, r4, r5, r6) := by rw [if_pos rfl] at H; exact H
       clear H
       have H := H1
       clear H1
       by_cases c16 : x169001_1.length < 8796093022208
       · rw [if_pos c16] at H
         have LMc16 := Aside0.mk c16
         clear c16
         obtain ⟨y179, hy179⟩ : ∃ y_ : List ByteArray, y_ = (x169001_1 ++ [t177]) := ⟨_, rfl⟩
         replace H : (pollardref07_GetCommit.l0 k1 t175 true t172 y179 (⟨#[]⟩ : ByteArray) 0 (⟨#[]⟩ : ByteArray)) = some (r1, r2, r3, r4, r5, r6) := by first | (rw [hy179]; with_reducible exact H) | (have H2_ := (Option.bind_some _ _).symm.trans H; rw [hy179]; with_reducible exact H2_) | (have H2_ := (Option.bind_some _ _).symm.trans H; with_reducible exact H2_) | with_reducible exact H | (rw [hy179]; exact H) | exact H
         have Ny179 := Aside0.mk hy179
         clear hy179
         have H' := Aside0.mk H
         clear H
         go_wp2_with (first | ((with_reducible refine gate_callee (f := 24) rfl ?_); refine goesL_ (some 36) rfl rfl Tryd.func24 (by kernel_rfl) rfl #[.string x6_1, .string (⟨#[112, 97, 114, 101, 110, 116]⟩ : ByteArray)] rfl (by (try simp only [List.map_toArray, List.map_cons, List.map_nil]); first | done | rfl | (simp only [List.length_drop, List.length_take]; rfl)) ?_; (with_reducible refine (pollardref07_line.calls k1 x6_1 (⟨#[112, 97, 114, 101, 110, 116]⟩ : ByteArray) t174 t175 true _ A12.out).mono ?_); rintro e w' ⟨rfl, ⟨nd, rfl⟩⟩; refine ⟨_, rfl, ?_⟩; (try (rw [drewN_self wr]; generalize hq_ : World.drewN wr _ = wr; have n0_ : Aside0 (Kd.R Kd.string 9 wr w.heap.size (fun _ => True) u169001 x169001_1) := ⟨by rw [← hq_]; exact (by (with_reducible repeat (first | apply Kd.R_alloc | apply Kd.R_drewN | apply Kd.R_drew)); exact HO_169001.out)⟩; have n1_ : Aside0 (wr.heap[gb167]? = some (.cells #[.string x168000_1, .slice none 0 0, .string x168002_1, .int .u64 x168003_1, .string x168004_1] 30 (0, 0))) := ⟨by rw [← hq_]; exact (by (with_reducible repeat (first | refine blk_drewN ?_ _ | refine blk_drew ?_ | refine blk_alloc ?_ _)); exact BK167.out)⟩; have n2_ : Aside0 (wr.heap[gb168]? = some (.cells #[.string t172, u169001, .string (⟨#[]⟩ : ByteArray), .int .u64 0, .string (⟨#[]⟩ : ByteArray)] 30 (0, 0))) := ⟨by rw [← hq_]; exact (by (with_reducible repeat (first | refine blk_drewN ?_ _ | refine blk_drew ?_ | refine blk_alloc ?_ _)); exact BK168.out)⟩; have n3_ : Aside0 (Below w.heap.size w wr) := ⟨by rw [← hq_]; exact (by repeat (first | (with_reducible first | exact HB.out | apply below_alloc | apply pw_below_drewN | apply below_drew1 | refine below_set ?_ GE167.out | refine below_set ?_ GE168.out) | exact HB.out))⟩; clear HO_169001 BK167 BK168 HB hq_; have HO_169001 := n0_; have BK167 := n1_; have BK168 := n2_; have HB := n3_; clear n0_ n1_ n2_ n3_))) | ((with_reducible refine gate_callee (f := 25) rfl ?_); refine goesL_ (some 44) rfl rfl Tryd.func25 (by kernel_rfl) rfl #[.string t174] rfl (by (try simp only [List.map_toArray, List.map_cons, List.map_nil]); first | done | rfl | (simp only [List.length_drop, List.length_take]; rfl)) ?_; (with_reducible refine (pollardref07_id.calls k1 t174 t177 true _ A14.out).mono ?_); rintro e w17 ⟨rfl, hb⟩; refine ⟨_, rfl, ?_⟩; have n0_ := Aside0.mk (Kd.R_below (by (with_reducible repeat (first | apply Kd.R_alloc | apply Kd.R_drewN | apply Kd.R_drew)); exact HO_169001.out) hb); have n1_ := Aside0.mk (blk_below (g := gb167) (o := .cells #[.string x168000_1, .slice none 0 0, .string x168002_1, .int .u64 x168003_1, .string x168004_1] 30 (0, 0)) (by (with_reducible repeat (first | refine blk_drewN ?_ _ | refine blk_drew ?_ | refine blk_alloc ?_ _)); exact BK167.out) hb); have n2_ := Aside0.mk (blk_below (g := gb168) (o := .cells #[.string t172, u169001, .string (⟨#[]⟩ : ByteArray), .int .u64 0, .string (⟨#[]⟩ : ByteArray)] 30 (0, 0)) (by (with_reducible repeat (first | refine blk_drewN ?_ _ | refine blk_drew ?_ | refine blk_alloc ?_ _)); exact BK168.out) hb); have n3_ := Aside0.mk (below_step (by repeat (first | (with_reducible first | exact HB.out | apply below_alloc | apply pw_below_drewN | apply below_drew1 | refine below_set ?_ GE167.out | refine below_set ?_ GE168.out) | exact HB.out)) hb); clear HO_169001; clear BK167; clear BK168; clear HB; have HO_169001 := n0_; have BK167 := n1_; have BK168 := n2_; have HB := n3_; clear n0_ n1_ n2_ n3_; (try clear hb); (try clear hb2); (try clear hk); (try clear hi); have hnb18 := NB168_167.out; have hnc18 := NB167_168.out; have hcz19_0 : w17.cell? ⟨gb168, 0, none⟩ = some (.string t172) := (blk_cell BK168.out 0).trans rfl; have hcz19_1 : w17.cell? ⟨gb168, 1, none⟩ = some (u169001) := (blk_cell BK168.out 1).trans rfl; have hcz19_2 : w17.cell? ⟨gb168, 2, none⟩ = some (.string (⟨#[]⟩ : ByteArray)) := (blk_cell BK168.out 2).trans rfl; have hcz19_3 : w17.cell? ⟨gb168, 3, none⟩ = some (.int .u64 0) := (blk_cell BK168.out 3).trans rfl; have hcz19_4 : w17.cell? ⟨gb168, 4, none⟩ = some (.string (⟨#[]⟩ : ByteArray)) := (blk_cell BK168.out 4).trans rfl; have hfz19_0 := blk_frozen BK168.out 0; have hfz19_1 := blk_frozen BK168.out 1; have hfz19_2 := blk_frozen BK168.out 2; have hfz19_3 := blk_frozen BK168.out 3; have hfz19_4 := blk_frozen BK168.out 4) | ((with_reducible refine gate_builtin (b := .append) (xs := #[.tmp 51, .tmp 53]) rfl ?_); (try (refine gate_guard (by rfl) ?_; dsimp only)); at_builtin; refine Kd.R_append Kd.string (w0 := w) w.heap.size rfl (.tmp 51) (.tmp 53) 22 9 (.string ⟨#[]⟩) 16 rfl Tryd.underlying22 info9 rfl (by decide) (by omega) u169001 x169001_1 t177 [.string t177] (fun _ => True) (fun _ => False) rfl rfl ?aP (fun _ hk => hk.elim) ?aF ?aO ?aB ?aS ?aL ?_; (case aP => exact rfl); (case aB => exact (by repeat (first | (with_reducible first | exact HB.out | apply below_alloc | apply pw_below_drewN | apply below_drew1 | refine below_set ?_ GE167.out | refine below_set ?_ GE168.out) | exact HB.out))); (case aF => exact (fun _ _ => trivial)); (case aO => exact (by (with_reducible repeat (first | apply Kd.R_alloc | apply Kd.R_drewN | apply Kd.R_drew)); exact HO_169001.out)); (case aS => exact (below_size (by repeat (first | (with_reducible first | exact HB.out | apply below_alloc | apply pw_below_drewN | apply below_drew1 | refine below_set ?_ GE167.out | refine below_set ?_ GE168.out) | exact HB.out)))); (case aL => have := LMc16.out; omega); intro v180 w20 ho hb hg hat; rw [← Ny179.out] at ho; have n0_ := Aside0.mk (blk_grown (g := gb167) (o := .cells #[.string x168000_1, .slice none 0 0, .string x168002_1, .int .u64 x168003_1, .string x168004_1] 30 (0, 0)) (by (with_reducible repeat (first | refine blk_drewN ?_ _ | refine blk_drew ?_ | refine blk_alloc ?_ _)); exact BK167.out) hg (Kd.R_ne HO_169001.out BK167.out (by decide))); have n1_ := Aside0.mk (blk_grown (g := gb168) (o := .cells #[.string t172, u169001, .string (⟨#[]⟩ : ByteArray), .int .u64 0, .string (⟨#[]⟩ : ByteArray)] 30 (0, 0)) (by (with_reducible repeat (first | refine blk_drewN ?_ _ | refine blk_drew ?_ | refine blk_alloc ?_ _)); exact BK168.out) hg (Kd.R_ne HO_169001.out BK168.out (by decide))); have n2_ := Aside0.mk (hb); have n3_ := Aside0.mk (ho); clear BK167; clear BK168; clear HB; clear HO_169001; have BK167 := n0_; have BK168 := n1_; have HB := n2_; have HO181 := n3_; clear n0_ n1_ n2_ n3_; clear ho hb hg hat; obtain ⟨Ao21, co21, eo21⟩ := Kd.R_slice HO181.out; subst eo21; have hcz22_0 : w20.cell? ⟨gb168, 0, none⟩ = some (.string t172) := (blk_cell BK168.out 0).trans rfl; have hcz22_1 : w20.cell? ⟨gb168, 1, none⟩ = some (u169001) := (blk_cell BK168.out 1).trans rfl; have hcz22_2 : w20.cell? ⟨gb168, 2, none⟩ = some (.string (⟨#[]⟩ : ByteArray)) := (blk_cell BK168.out 2).trans rfl; have hcz22_3 : w20.cell? ⟨gb168, 3, none⟩ = some (.int .u64 0) := (blk_cell BK168.out 3).trans rfl; have hcz22_4 : w20.cell? ⟨gb168, 4, none⟩ = some (.string (⟨#[]⟩ : ByteArray)) := (blk_cell BK168.out 4).trans rfl; have hfz22_0 := blk_frozen BK168.out 0; have hfz22_1 := blk_frozen BK168.out 1; have hfz22_2 := blk_frozen BK168.out 2; have hfz22_3 := blk_frozen BK168.out 3; have hfz22_4 := blk_frozen BK168.out 4))
         go_roundg k1
         case measure => have := HK1.out; omega
         case rel => exact ⟨(t175), (x168000_1), (x168002_1), (x168003_1), (x168004_1), (y179), (.slice Ao21 y179.length co21), (by first | rfl | (simp; done) | (simp [*]; done)), H', ⟨by have := HK1.out; omega⟩, ⟨by (with_reducible repeat (first | apply Kd.R_alloc | apply Kd.R_drewN | apply Kd.R_drew)); exact Kd.R_mono (Kd.R_far (p := ⟨gb168, 1, none⟩) (Kd.R_types HO181.out BK168.out (by decide)) (fun _ hk => hk.2) (.slice Ao21 y179.length co21)) (fun _ hk => trivial)⟩, ⟨by (with_reducible repeat (first | refine blk_drewN ?_ _ | refine blk_drew ?_ | refine blk_alloc ?_ _)); refine blk_far ?_ NB167_168.out _; (with_reducible repeat (first | refine blk_drewN ?_ _ | refine blk_drew ?_ | refine blk_alloc ?_ _)); exact BK167.out⟩, ⟨by (with_reducible repeat (first | refine blk_drewN ?_ _ | refine blk_drew ?_ | refine blk_alloc ?_ _)); refine blk_put (cs := #[.string t172, u169001, .string (⟨#[]⟩ : ByteArray), .int .u64 0, .string (⟨#[]⟩ : ByteArray)]) ?_ 1 _ rfl; (with_reducible repeat (first | refine blk_drewN ?_ _ | refine blk_drew ?_ | refine blk_alloc ?_ _)); exact BK168.out⟩, ⟨by repeat (first | (with_reducible first | exact HB.out | apply below_alloc | apply pw_below_drewN | apply below_drew1 | refine below_set ?_ GE167.out | refine below_set ?_ GE168.out) | exact HB.out)⟩⟩
       · rw [if_neg c16] at H
         exact absurd H (by simp)
      · replace c15 := Bool.eq_false_iff.mpr c15
        subst c15
        have H1 : (some ((⟨#[]⟩ : ByteArray), ([] : List ByteArray), (⟨#[]⟩ : ByteArray), 0, (⟨#[]⟩ : ByteArray), 6)) = some (r1, r2, r3, r4, r5, r6) := by rw [if_neg (show ¬ (false = true) by decide)] at H; exact H
        clear H
        have H := H1
        clear H1
        simp only [Option.some.injEq, Prod.mk.injEq] at H
        obtain ⟨rfl, rfl, rfl, rfl, rfl, rfl⟩ := H
        go_wp2_with (first | ((with_reducible refine gate_callee (f := 24) rfl ?_); refine goesL_ (some 36) rfl rfl Tryd.func24 (by kernel_rfl) rfl #[.string x6_1, .string (⟨#[112, 97, 114, 101, 110, 116]⟩ : ByteArray)] rfl (by (try simp only [List.map_toArray, List.map_cons, List.map_nil]); first | done | rfl | (simp only [List.length_drop, List.length_take]; rfl)) ?_; (with_reducible refine (pollardref07_line.calls k1 x6_1 (⟨#[112, 97, 114, 101, 110, 116]⟩ : ByteArray) t174 t175 true _ A12.out).mono ?_); rintro e w' ⟨rfl, ⟨nd, rfl⟩⟩; refine ⟨_, rfl, ?_⟩; (try (rw [drewN_self wr]; generalize hq_ : World.drewN wr _ = wr; have n0_ : Aside0 (Kd.R Kd.string 9 wr w.heap.size (fun _ => True) u169001 x169001_1) := ⟨by rw [← hq_]; exact (by (with_reducible repeat (first | apply Kd.R_alloc | apply Kd.R_drewN | apply Kd.R_drew)); exact HO_169001.out)⟩; have n1_ : Aside0 (wr.heap[gb167]? = some (.cells #[.string x168000_1, .slice none 0 0, .string x168002_1, .int .u64 x168003_1, .string x168004_1] 30 (0, 0))) := ⟨by rw [← hq_]; exact (by (with_reducible repeat (first | refine blk_drewN ?_ _ | refine blk_drew ?_ | refine blk_alloc ?_ _)); exact BK167.out)⟩; have n2_ : Aside0 (wr.heap[gb168]? = some (.cells #[.string t172, u169001, .string (⟨#[]⟩ : ByteArray), .int .u64 0, .string (⟨#[]⟩ : ByteArray)] 30 (0, 0))) := ⟨by rw [← hq_]; exact (by (with_reducible repeat (first | refine blk_drewN ?_ _ | refine blk_drew ?_ | refine blk_alloc ?_ _)); exact BK168.out)⟩; have n3_ : Aside0 (Below w.heap.size w wr) := ⟨by rw [← hq_]; exact (by repeat (first | (with_reducible first | exact HB.out | apply below_alloc | apply pw_below_drewN | apply below_drew1 | refine below_set ?_ GE167.out | refine below_set ?_ GE168.out) | exact HB.out))⟩; clear HO_169001 BK167 BK168 HB hq_; have HO_169001 := n0_; have BK167 := n1_; have BK168 := n2_; have HB := n3_; clear n0_ n1_ n2_ n3_))) | ((with_reducible refine gate_callee (f := 25) rfl ?_); refine goesL_ (some 44) rfl rfl Tryd.func25 (by kernel_rfl) rfl #[.string t174] rfl (by (try simp only [List.map_toArray, List.map_cons, List.map_nil]); first | done | rfl | (simp only [List.length_drop, List.length_take]; rfl)) ?_; (with_reducible refine (pollardref07_id.calls k1 t174 t177 false _ A14.out).mono ?_); rintro e w23 ⟨rfl, hb⟩; refine ⟨_, rfl, ?_⟩; have n0_ := Aside0.mk (Kd.R_below (by (with_reducible repeat (first | apply Kd.R_alloc | apply Kd.R_drewN | apply Kd.R_drew)); exact HO_169001.out) hb); have n1_ := Aside0.mk (blk_below (g := gb167) (o := .cells #[.string x168000_1, .slice none 0 0, .string x168002_1, .int .u64 x168003_1, .string x168004_1] 30 (0, 0)) (by (with_reducible repeat (first | refine blk_drewN ?_ _ | refine blk_drew ?_ | refine blk_alloc ?_ _)); exact BK167.out) hb); have n2_ := Aside0.mk (blk_below (g := gb168) (o := .cells #[.string t172, u169001, .string (⟨#[]⟩ : ByteArray), .int .u64 0, .string (⟨#[]⟩ : ByteArray)] 30 (0, 0)) (by (with_reducible repeat (first | refine blk_drewN ?_ _ | refine blk_drew ?_ | refine blk_alloc ?_ _)); exact BK168.out) hb); have n3_ := Aside0.mk (below_step (by repeat (first | (with_reducible first | exact HB.out | apply below_alloc | apply pw_below_drewN | apply below_drew1 | refine below_set ?_ GE167.out | refine below_set ?_ GE168.out) | exact HB.out)) hb); clear HO_169001; clear BK167; clear BK168; clear HB; have HO_169001 := n0_; have BK167 := n1_; have BK168 := n2_; have HB := n3_; clear n0_ n1_ n2_ n3_; (try clear hb); (try clear hb2); (try clear hk); (try clear hi); have hnb24 := NB167_168.out; have hnc24 := NB168_167.out; have hcz25_0 : w23.cell? ⟨gb167, 0, none⟩ = some (.string x168000_1) := (blk_cell BK167.out 0).trans rfl; have hcz25_1 : w23.cell? ⟨gb167, 1, none⟩ = some (.slice none 0 0) := (blk_cell BK167.out 1).trans rfl; have hcz25_2 : w23.cell? ⟨gb167, 2, none⟩ = some (.string x168002_1) := (blk_cell BK167.out 2).trans rfl; have hcz25_3 : w23.cell? ⟨gb167, 3, none⟩ = some (.int .u64 x168003_1) := (blk_cell BK167.out 3).trans rfl; have hcz25_4 : w23.cell? ⟨gb167, 4, none⟩ = some (.string x168004_1) := (blk_cell BK167.out 4).trans rfl; have hfz25_0 := blk_frozen BK167.out 0; have hfz25_1 := blk_frozen BK167.out 1; have hfz25_2 := blk_frozen BK167.out 2; have hfz25_3 := blk_frozen BK167.out 3; have hfz25_4 := blk_frozen BK167.out 4))
        refine bodyPost_ret (results_ct rfl _ _ gb167 30 #[.string (⟨#[]⟩ : ByteArray), .slice none 0 0, .string (⟨#[]⟩ : ByteArray), .int .u64 0, .string (⟨#[]⟩ : ByteArray)] (0, 0) _ rfl (by (with_reducible repeat (first | refine blk_drewN ?_ _ | refine blk_drew ?_ | refine blk_alloc ?_ _)); refine blk_put (cs := #[.string (⟨#[]⟩ : ByteArray), .slice none 0 0, .string (⟨#[]⟩ : ByteArray), .int .u64 0, .string x168004_1]) ?_ 4 _ rfl; (with_reducible repeat (first | refine blk_drewN ?_ _ | refine blk_drew ?_ | refine blk_alloc ?_ _)); refine blk_put (cs := #[.string (⟨#[]⟩ : ByteArray), .slice none 0 0, .string (⟨#[]⟩ : ByteArray), .int .u64 x168003_1, .string x168004_1]) ?_ 3 _ rfl; (with_reducible repeat (first | refine blk_drewN ?_ _ | refine blk_drew ?_ | refine blk_alloc ?_ _)); refine blk_put (cs := #[.string (⟨#[]⟩ : ByteArray), .slice none 0 0, .string x168002_1, .int .u64 x168003_1, .string x168004_1]) ?_ 2 _ rfl; (with_reducible repeat (first | refine blk_drewN ?_ _ | refine blk_drew ?_ | refine blk_alloc ?_ _)); refine blk_put (cs := #[.string (⟨#[]⟩ : ByteArray), .slice none 0 0, .string x168002_1, .int .u64 x168003_1, .string x168004_1]) ?_ 1 _ rfl; (with_reducible repeat (first | refine blk_drewN ?_ _ | refine blk_drew ?_ | refine blk_alloc ?_ _)); refine blk_put (cs := #[.string x168000_1, .slice none 0 0, .string x168002_1, .int .u64 x168003_1, .string x168004_1]) ?_ 0 _ rfl; (with_reducible repeat (first | refine blk_drewN ?_ _ | refine blk_drew ?_ | refine blk_alloc ?_ _)); exact BK167.out) Tryd.underlying30 rfl (by kernel_rfl)) rfl ?_
        exact ⟨_, by first | rfl | (simp [errW_none, errW_some] <;> rfl) | (simp [*, errW_none, errW_some] <;> rfl), by first | exact Kd.R_nil _ _ _ _ _ | exact Kd.N_nil _ _ _ _ _ | exact Kd.V_nil _ _ _ _ _ | exact Kd.Q_nil _ _ _ _ _ | exact Kd.S_nil _ _ _ _ _, by repeat (first | (with_reducible first | exact HB.out | apply below_alloc | apply pw_below_drewN | apply below_drew1 | refine below_set ?_ GE167.out | refine below_set ?_ GE168.out) | exact HB.out)⟩
     · replace c13 := Bool.eq_false_iff.mpr c13
       subst c13
       have H1 : (pollardref07_GetCommit.j1 k1 x6_1 true t172 x169001_1 (⟨#[]⟩ : ByteArray) 0 (⟨#[]⟩ : ByteArray)) = some (r1, r2, r3, r4, r5, r6) := by rw [if_neg (show ¬ (false = true) by decide)] at H; exact H
       clear H
       have H := H1
       clear H1
       have H' := Aside0.mk H
       clear H
       go_wp2_with (first | ((with_reducible refine gate_callee (f := 24) rfl ?_); refine goesL_ (some 36) rfl rfl Tryd.func24 (by kernel_rfl) rfl #[.string x6_1, .string (⟨#[112, 97, 114, 101, 110, 116]⟩ : ByteArray)] rfl (by (try simp only [List.map_toArray, List.map_cons, List.map_nil]); first | done | rfl | (simp only [List.length_drop, List.length_take]; rfl)) ?_; (with_reducible refine (pollardref07_line.calls k1 x6_1 (⟨#[112, 97, 114, 101, 110, 116]⟩ : ByteArray) t174 t175 false _ A12.out).mono ?_); rintro e w' ⟨rfl, ⟨nd, rfl⟩⟩; refine ⟨_, rfl, ?_⟩))
       go_meet
       case rel => exact ⟨_, (x6_1), (x168000_1), (x168002_1), (x168003_1), (x168004_1), (x169001_1), (u169001), (by first | rfl | (simp; done) | (simp [*]; done)), H', ⟨by have := HK1.out; first | omega | exact Nat.le_refl _⟩, ⟨by (with_reducible repeat (first | apply Kd.R_alloc | apply Kd.R_drewN | apply Kd.R_drew)); exact HO_169001.out⟩, ⟨by (with_reducible repeat (first | refine blk_drewN ?_ _ | refine blk_drew ?_ | refine blk_alloc ?_ _)); exact BK167.out⟩, ⟨by (with_reducible repeat (first | refine blk_drewN ?_ _ | refine blk_drew ?_ | refine blk_alloc ?_ _)); exact BK168.out⟩, ⟨by repeat (first | (with_reducible first | exact HB.out | apply below_alloc | apply pw_below_drewN | apply below_drew1 | refine below_set ?_ GE167.out | refine below_set ?_ GE168.out) | exact HB.out)⟩⟩
    · replace c11 := Bool.eq_false_iff.mpr c11
      subst c11
      have H1 : (pollardref07_GetCommit.j1 k1 x6_1 false t172 x169001_1 (⟨#[]⟩ : ByteArray) 0 (⟨#[]⟩ : ByteArray)) = some (r1, r2, r3, r4, r5, r6) := by rw [if_neg (show ¬ (false = true) by decide)] at H; exact H
      clear H
      have H := H1
      clear H1
      have H' := Aside0.mk H
      clear H
      go_wp2
      go_meet
      case rel => exact ⟨_, (x6_1), (x168000_1), (x168002_1), (x168003_1), (x168004_1), (x169001_1), (u169001), (by first | rfl | (simp; done) | (simp [*]; done)), H', ⟨by have := HK1.out; first | omega | exact Nat.le_refl _⟩, ⟨by (with_reducible repeat (first | apply Kd.R_alloc | apply Kd.R_drewN | apply Kd.R_drew)); exact HO_169001.out⟩, ⟨by (with_reducible repeat (first | refine blk_drewN ?_ _ | refine blk_drew ?_ | refine blk_alloc ?_ _)); exact BK167.out⟩, ⟨by (with_reducible repeat (first | refine blk_drewN ?_ _ | refine blk_drew ?_ | refine blk_alloc ?_ _)); exact BK168.out⟩, ⟨by repeat (first | (with_reducible first | exact HB.out | apply below_alloc | apply pw_below_drewN | apply below_drew1 | refine below_set ?_ GE167.out | refine below_set ?_ GE168.out) | exact HB.out)⟩⟩
 case rest =>
  clear HC4
  try clear c1
  try clear c2
  try clear p2
  try clear c7
  try clear c8
  try clear c11
  try clear c13
  try clear c15
  try clear c16
  try clear c18
  try clear c24
  try clear c25
  try clear hcz10_0
  try clear hcz10_1
  try clear hcz10_2
  try clear hcz10_3
  try clear hcz10_4
  try clear hcz19_0
  try clear hcz19_1
  try clear hcz19_2
  try clear hcz19_3
  try clear hcz19_4
  try clear hcz22_0
  try clear hcz22_1
  try clear hcz22_2
  try clear hcz22_3
  try clear hcz22_4
  try clear hcz25_0
  try clear hcz25_1
  try clear hcz25_2
  try clear hcz25_3
  try clear hcz25_4
  try clear hcz8_0
  try clear hcz8_1
  try clear hcz8_2
  try clear hcz8_3
  try clear hcz8_4
  try clear hfz10_0
  try clear hfz10_1
  try clear hfz10_2
  try clear hfz10_3
  try clear hfz10_4
  try clear hfz19_0
  try clear hfz19_1
  try clear hfz19_2
  try clear hfz19_3
  try clear hfz19_4
  try clear hfz22_0
  try clear hfz22_1
  try clear hfz22_2
  try clear hfz22_3
  try clear hfz22_4
  try clear hfz25_0
  try clear hfz25_1
  try clear hfz25_2
  try clear hfz25_3
  try clear hfz25_4
  try clear hfz8_0
  try clear hfz8_1
  try clear hfz8_2
  try clear hfz8_3
  try clear hfz8_4
  try clear p2
  obtain ⟨kq, x6_3, x168000_3, x168002_3, x168003_3, x168004_3, x169001_3, u169001, rfl, HA, HJ3, HO_169001, BK167, BK168, HB⟩ := hcut
  cases kq with
  | zero => exact absurd HA.out (by simp [pollardref07_GetCommit.j1])
  | succ kj3 =>
   have H := HA.out
   clear HA
   simp only [pollardref07_GetCommit.j1] at H
   replace H := Option.bind_eq_some_iff.mp H
   obtain ⟨⟨t182, t183, t184⟩, A260, H⟩ := H
   replace H : ((pollardref07_line.f kj3 t183 (⟨#[116, 105, 109, 101]⟩ : ByteArray)).bind fun bt185 => ((pollardref02_Undec.f kj3 bt185.1).bind fun bt188 => (if t171 = true then (if t184 = true then (if bt185.2.2 = true then (if (t172.size : Int) = 32 then (if bt188.2 = 0 then (if (bt185.2.1.size : Int) = 0 then (pollardref07_GetCommit.j2 kj3 bt185.2.1 t182 bt188.1 true t172 x169001_3 (⟨#[]⟩ : ByteArray) 0 (⟨#[]⟩ : ByteArray)) else (if 0 < (bt185.2.1.size : Int) then (pollardref07_GetCommit.j2 kj3 bt185.2.1 t182 bt188.1 ((bt bt185.2.1 0) != 10) t172 x169001_3 (⟨#[]⟩ : ByteArray) 0 (⟨#[]⟩ : ByteArray)) else (none))) else (pollardref07_GetCommit.j2 kj3 bt185.2.1 t182 bt188.1 true t172 x169001_3 (⟨#[]⟩ : ByteArray) 0 (⟨#[]⟩ : ByteArray))) else (pollardref07_GetCommit.j2 kj3 bt185.2.1 t182 bt188.1 true t172 x169001_3 (⟨#[]⟩ : ByteArray) 0 (⟨#[]⟩ : ByteArray))) else (pollardref07_GetCommit.j2 kj3 bt185.2.1 t182 bt188.1 true t172 x169001_3 (⟨#[]⟩ : ByteArray) 0 (⟨#[]⟩ : ByteArray))) else (pollardref07_GetCommit.j2 kj3 bt185.2.1 t182 bt188.1 true t172 x169001_3 (⟨#[]⟩ : ByteArray) 0 (⟨#[]⟩ : ByteArray))) else (pollardref07_GetCommit.j2 kj3 bt185.2.1 t182 bt188.1 true t172 x169001_3 (⟨#[]⟩ : ByteArray) 0 (⟨#[]⟩ : ByteArray))))) = some (r1, r2, r3, r4, r5, r6) := H
   have A26 := Aside0.mk A260
   clear A260
   replace H := Option.bind_eq_some_iff.mp H
   obtain ⟨⟨t185, t186, t187⟩, A270, H⟩ := H
   replace H : ((pollardref02_Undec.f kj3 t185).bind fun bt188 => (if t171 = true then (if t184 = true then (if t187 = true then (if (t172.size : Int) = 32 then (if bt188.2 = 0 then (if (t186.size : Int) = 0 then (pollardref07_GetCommit.j2 kj3 t186 t182 bt188.1 true t172 x169001_3 (⟨#[]⟩ : ByteArray) 0 (⟨#[]⟩ : ByteArray)) else (if 0 < (t186.size : Int) then (pollardref07_GetCommit.j2 kj3 t186 t182 bt188.1 ((bt t186 0) != 10) t172 x169001_3 (⟨#[]⟩ : ByteArray) 0 (⟨#[]⟩ : ByteArray)) else (none))) else (pollardref07_GetCommit.j2 kj3 t186 t182 bt188.1 true t172 x169001_3 (⟨#[]⟩ : ByteArray) 0 (⟨#[]⟩ : ByteArray))) else (pollardref07_GetCommit.j2 kj3 t186 t182 bt188.1 true t172 x169001_3 (⟨#[]⟩ : ByteArray) 0 (⟨#[]⟩ : ByteArray))) else (pollardref07_GetCommit.j2 kj3 t186 t182 bt188.1 true t172 x169001_3 (⟨#[]⟩ : ByteArray) 0 (⟨#[]⟩ : ByteArray))) else (pollardref07_GetCommit.j2 kj3 t186 t182 bt188.1 true t172 x169001_3 (⟨#[]⟩ : ByteArray) 0 (⟨#[]⟩ : ByteArray))) else (pollardref07_GetCommit.j2 kj3 t186 t182 bt188.1 true t172 x169001_3 (⟨#[]⟩ : ByteArray) 0 (⟨#[]⟩ : ByteArray)))) = some (r1, r2, r3, r4, r5, r6) := H
   have A27 := Aside0.mk A270
   clear A270
   replace H := Option.bind_eq_some_iff.mp H
   obtain ⟨⟨t188, t189⟩, A280, H⟩ := H
   replace H : (if t171 = true then (if t184 = true then (if t187 = true then (if (t172.size : Int) = 32 then (if t189 = 0 then (if (t186.size : Int) = 0 then (pollardref07_GetCommit.j2 kj3 t186 t182 t188 true t172 x169001_3 (⟨#[]⟩ : ByteArray) 0 (⟨#[]⟩ : ByteArray)) else (if 0 < (t186.size : Int) then (pollardref07_GetCommit.j2 kj3 t186 t182 t188 ((bt t186 0) != 10) t172 x169001_3 (⟨#[]⟩ : ByteArray) 0 (⟨#[]⟩ : ByteArray)) else (none))) else (pollardref07_GetCommit.j2 kj3 t186 t182 t188 true t172 x169001_3 (⟨#[]⟩ : ByteArray) 0 (⟨#[]⟩ : ByteArray))) else (pollardref07_GetCommit.j2 kj3 t186 t182 t188 true t172 x169001_3 (⟨#[]⟩ : ByteArray) 0 (⟨#[]⟩ : ByteArray))) else (pollardref07_GetCommit.j2 kj3 t186 t182 t188 true t172 x169001_3 (⟨#[]⟩ : ByteArray) 0 (⟨#[]⟩ : ByteArray))) else (pollardref07_GetCommit.j2 kj3 t186 t182 t188 true t172 x169001_3 (⟨#[]⟩ : ByteArray) 0 (⟨#[]⟩ : ByteArray))) else (pollardref07_GetCommit.j2 kj3 t186 t182 t188 true t172 x169001_3 (⟨#[]⟩ : ByteArray) 0 (⟨#[]⟩ : ByteArray))) = some (r1, r2, r3, r4, r5, r6) := H
   have A28 := Aside0.mk A280
   clear A280
   have HC29 := Aside0.mk H
   clear H
   go_upto_region 14 with (first | ((with_reducible refine gate_callee (f := 24) rfl ?_); refine goesL_ (some 59) rfl rfl Tryd.func24 (by kernel_rfl) rfl #[.string x6_3, .string (⟨#[97, 117, 116, 104, 111, 114]⟩ : ByteArray)] rfl (by (try simp only [List.map_toArray, List.map_cons, List.map_nil]); first | done | rfl | (simp only [List.length_drop, List.length_take]; rfl)) ?_; (with_reducible refine (pollardref07_line.calls kj3 x6_3 (⟨#[97, 117, 116, 104, 111, 114]⟩ : ByteArray) t182 t183 t184 _ A26.out).mono ?_); rintro e w' ⟨rfl, ⟨nd, rfl⟩⟩; refine ⟨_, rfl, ?_⟩) | ((with_reducible refine gate_callee (f := 24) rfl ?_); refine goesL_ (some 65) rfl rfl Tryd.func24 (by kernel_rfl) rfl #[.string t183, .string (⟨#[116, 105, 109, 101]⟩ : ByteArray)] rfl (by (try simp only [List.map_toArray, List.map_cons, List.map_nil]); first | done | rfl | (simp only [List.length_drop, List.length_take]; rfl)) ?_; (with_reducible refine (pollardref07_line.calls kj3 t183 (⟨#[116, 105, 109, 101]⟩ : ByteArray) t185 t186 t187 _ A27.out).mono ?_); rintro e w' ⟨rfl, ⟨nd, rfl⟩⟩; refine ⟨_, rfl, ?_⟩) | ((with_reducible refine gate_callee (f := 26) rfl ?_); refine goesL_ (some 71) rfl rfl Tryd.func26 (by kernel_rfl) rfl #[.string t185] rfl (by (try simp only [List.map_toArray, List.map_cons, List.map_nil]); first | done | rfl | (simp only [List.length_drop, List.length_take]; rfl)) ?_; (with_reducible refine (pollardref02_Undec.calls kj3 t185 t188 t189 _ A28.out).mono ?_); rintro e w' ⟨rfl, ⟨nd, rfl⟩⟩; refine ⟨_, rfl, ?_⟩))
   (try simp only [Act.put, List.setIfInBounds_toArray, List.set_cons_zero, List.set_cons_succ])
   go_cut [103] (fun v103 wc => ∃ (kq : Nat) (x103_28 : Bool), v103 = .bool x103_28 ∧ Aside0 (pollardref07_GetCommit.j2 kq t186 t182 t188 x103_28 t172 x169001_3 (⟨#[]⟩ : ByteArray) 0 (⟨#[]⟩ : ByteArray) = some (r1, r2, r3, r4, r5, r6)) ∧ Aside0 (kq ≤ kj3) ∧ Aside0 (Kd.R Kd.string 9 wc w.heap.size (fun _ => True) u169001 x169001_3) ∧ Aside0 (wc.heap[gb167]? = some (.cells #[.string x168000_3, (.slice none 0 0), .string x168002_3, .int .u64 x168003_3, .string x168004_3] 30 (0, 0))) ∧ Aside0 (wc.heap[gb168]? = some (.cells #[.string t172, u169001, .string (⟨#[]⟩ : ByteArray), .int .u64 0, .string (⟨#[]⟩ : ByteArray)] 30 (0, 0))) ∧ Aside0 (Below w.heap.size w wc))
   case first =>
    have H := HC29.out
    clear HC29
    by_cases c30 : t171 = true
    ·
     subst c30
     have H1 : (if t184 = true then (if t187 = true then (if (t172.size : Int) = 32 then (if t189 = 0 then (if (t186.size : Int) = 0 then (pollardref07_GetCommit.j2 kj3 t186 t182 t188 true t172 x169001_3 (⟨#[]⟩ : ByteArray) 0 (⟨#[]⟩ : ByteArray)) else (if 0 < (t186.size : Int) then (pollardref07_GetCommit.j2 kj3 t186 t182 t188 ((bt t186 0) != 10) t172 x169001_3 (⟨#[]⟩ : ByteArray) 0 (⟨#[]⟩ : ByteArray)) else (none))) else (pollardref07_GetCommit.j2 kj3 t186 t182 t188 true t172 x169001_3 (⟨#[]⟩ : ByteArray) 0 (⟨#[]⟩ : ByteArray))) else (pollardref07_GetCommit.j2 kj3 t186 t182 t188 true t172 x169001_3 (⟨#[]⟩ : ByteArray) 0 (⟨#[]⟩ : ByteArray))) else (pollardref07_GetCommit.j2 kj3 t186 t182 t188 true t172 x169001_3 (⟨#[]⟩ : ByteArray) 0 (⟨#[]⟩ : ByteArray))) else (pollardref07_GetCommit.j2 kj3 t186 t182 t188 true t172 x169001_3 (⟨#[]⟩ : ByteArray) 0 (⟨#[]⟩ : ByteArray))) = some (r1, r2, r3, r4, r5, r6) := by rw [if_pos rfl] at H; exact H
     clear H
     have H := H1
     clear H1
     by_cases c31 : t184 = true
     ·
      subst c31
      have H1 : (if t187 = true then (if (t172.size : Int) = 32 then (if t189 = 0 then (if (t186.size : Int) = 0 then (pollardref07_GetCommit.j2 kj3 t186 t182 t188 true t172 x169001_3 (⟨#[]⟩ : ByteArray) 0 (⟨#[]⟩ : ByteArray)) else (if 0 < (t186.size : Int) then (pollardref07_GetCommit.j2 kj3 t186 t182 t188 ((bt t186 0) != 10) t172 x169001_3 (⟨#[]⟩ : ByteArray) 0 (⟨#[]⟩ : ByteArray)) else (none))) else (pollardref07_GetCommit.j2 kj3 t186 t182 t188 true t172 x169001_3 (⟨#[]⟩ : ByteArray) 0 (⟨#[]⟩ : ByteArray))) else (pollardref07_GetCommit.j2 kj3 t186 t182 t188 true t172 x169001_3 (⟨#[]⟩ : ByteArray) 0 (⟨#[]⟩ : ByteArray))) else (pollardref07_GetCommit.j2 kj3 t186 t182 t188 true t172 x169001_3 (⟨#[]⟩ : ByteArray) 0 (⟨#[]⟩ : ByteArray))) = some (r1, r2, r3, r4, r5, r6) := by rw [if_pos rfl] at H; exact H
      clear H
      have H := H1
      clear H1
      by_cases c32 : t187 = true
      ·
       subst c32
       have H1 : (if (t172.size : Int) = 32 then (if t189 = 0 then (if (t186.size : Int) = 0 then (pollardref07_GetCommit.j2 kj3 t186 t182 t188 true t172 x169001_3 (⟨#[]⟩ : ByteArray) 0 (⟨#[]⟩ : ByteArray)) else (if 0 < (t186.size : Int) then (pollardref07_GetCommit.j2 kj3 t186 t182 t188 ((bt t186 0) != 10) t172 x169001_3 (⟨#[]⟩ : ByteArray) 0 (⟨#[]⟩ : ByteArray)) else (none))) else (pollardref07_GetCommit.j2 kj3 t186 t182 t188 true t172 x169001_3 (⟨#[]⟩ : ByteArray) 0 (⟨#[]⟩ : ByteArray))) else (pollardref07_GetCommit.j2 kj3 t186 t182 t188 true t172 x169001_3 (⟨#[]⟩ : ByteArray) 0 (⟨#[]⟩ : ByteArray))) = some (r1, r2, r3, r4, r5, r6) := by rw [if_pos rfl] at H; exact H
       clear H
       have H := H1
       clear H1
       by_cases c33 : (t172.size : Int) = 32
       ·
        rw [if_pos c33] at H
        have c33b0 : ((t172.size : Int) == 32) = true := beq_iff_eq.mpr c33
        have c33b1 : ((t172.size : Int) != 32) = false := bne_eq_false_iff_eq.mpr c33
        clear c33
        (first | rw [c33b0] | (simp only [i64_w, i32_w]; rw [c33b0]) | skip)
        by_cases c34 : t189 = 0
        ·
         rw [if_pos c34] at H
         have c34b0 : (t189 == 0) = true := beq_iff_eq.mpr c34
         have c34b1 : (t189 != 0) = false := bne_eq_false_iff_eq.mpr c34
         clear c34
         by_cases c35 : (t186.size : Int) = 0
         ·
          rw [if_pos c35] at H
          have c35b0 : ((t186.size : Int) == 0) = true := beq_iff_eq.mpr c35
          have c35b1 : ((t186.size : Int) != 0) = false := bne_eq_false_iff_eq.mpr c35
          clear c35
          have H' := Aside0.mk H
          clear H
          have hnb36 := NB168_167.out
          have hnc36 := NB167_168.out
          have hcz37_0 : wc.cell? ⟨gb168, 0, none⟩ = some (.string t172) := (blk_cell BK168.out 0).trans rfl
          have hcz37_1 : wc.cell? ⟨gb168, 1, none⟩ = some (u169001) := (blk_cell BK168.out 1).trans rfl
          have hcz37_2 : wc.cell? ⟨gb168, 2, none⟩ = some (.string (⟨#[]⟩ : ByteArray)) := (blk_cell BK168.out 2).trans rfl
          have hcz37_3 : wc.cell? ⟨gb168, 3, none⟩ = some (.int .u64 0) := (blk_cell BK168.out 3).trans rfl
          have hcz37_4 : wc.cell? ⟨gb168, 4, none⟩ = some (.string (⟨#[]⟩ : ByteArray)) := (blk_cell BK168.out 4).trans rfl
          have hfz37_0 := blk_frozen BK168.out 0
          have hfz37_1 := blk_frozen BK168.out 1
          have hfz37_2 := blk_frozen BK168.out 2
          have hfz37_3 := blk_frozen BK168.out 3
          have hfz37_4 := blk_frozen BK168.out 4
          go_wp2
          go_meet
          case rel => exact ⟨_, (true), (by first | rfl | (simp; done) | (simp [*]; done)), H', ⟨by have := HJ3.out; first | omega | exact Nat.le_refl _⟩, ⟨by (with_reducible repeat (first | apply Kd.R_alloc | apply Kd.R_drewN | apply Kd.R_drew)); exact HO_169001.out⟩, ⟨by (with_reducible repeat (first | refine blk_drewN ?_ _ | refine blk_drew ?_ | refine blk_alloc ?_ _)); exact BK167.out⟩, ⟨by (with_reducible repeat (first | refine blk_drewN ?_ _ | refine blk_drew ?_ | refine blk_alloc ?_ _)); exact BK168.out⟩, ⟨by repeat (first | (with_reducible first | exact HB.out | apply below_alloc | apply pw_below_drewN | apply below_drew1 | refine below_set ?_ GE167.out | refine below_set ?_ GE168.out) | exact HB.out)⟩⟩
         ·
          rw [if_neg c35] at H
          have c35b0 : ((t186.size : Int) == 0) = false := beq_eq_false_iff_ne.mpr c35
          have c35b1 : ((t186.size : Int) != 0) = true := bne_iff_ne.mpr c35
          by_cases c38 : 0 < (t186.size : Int)
          ·
           rw [if_pos c38] at H
           have c38b0 : decide (0 < (t186.size : Int)) = true := decide_eq_true c38
           have c38b1 : decide (0 < t186.size) = true := decide_eq_true (by omega)
           clear c38
           have H' := Aside0.mk H
           clear H
           have hnb40 := NB168_167.out
           have hnc40 := NB167_168.out
           have hcz41_0 : wc.cell? ⟨gb168, 0, none⟩ = some (.string t172) := (blk_cell BK168.out 0).trans rfl
           have hcz41_1 : wc.cell? ⟨gb168, 1, none⟩ = some (u169001) := (blk_cell BK168.out 1).trans rfl
           have hcz41_2 : wc.cell? ⟨gb168, 2, none⟩ = some (.string (⟨#[]⟩ : ByteArray)) := (blk_cell BK168.out 2).trans rfl
           have hcz41_3 : wc.cell? ⟨gb168, 3, none⟩ = some (.int .u64 0) := (blk_cell BK168.out 3).trans rfl
           have hcz41_4 : wc.cell? ⟨gb168, 4, none⟩ = some (.string (⟨#[]⟩ : ByteArray)) := (blk_cell BK168.out 4).trans rfl
           have hfz41_0 := blk_frozen BK168.out 0
           have hfz41_1 := blk_frozen BK168.out 1
           have hfz41_2 := blk_frozen BK168.out 2
           have hfz41_3 := blk_frozen BK168.out 3
           have hfz41_4 := blk_frozen BK168.out 4
           have p39 : 0 ≤ (0 : Int) := (by omega)
           have q39 : 0 < t186.size := (by have : (0 : Int) < (t186.size : Int) := of_decide_eq_true (by first | (with_reducible assumption) | assumption); omega)
           have hx39 : ∀ h : 0 < t186.size, ((t186[0]'h).toNat : Int) = bt t186 0 := bt_at t186 0
           clear p39
           have qi39 : (0 < (t186.size : Int)) = True := eq_true (of_decide_eq_true (by first | (with_reducible assumption) | assumption))
           replace q39 := eq_true q39
           go_wp2
           go_meet
           case rel => exact ⟨_, (((bt t186 0) != 10)), (by first | rfl | (simp; done) | (simp [*]; done)), H', ⟨by have := HJ3.out; first | omega | exact Nat.le_refl _⟩, ⟨by (with_reducible repeat (first | apply Kd.R_alloc | apply Kd.R_drewN | apply Kd.R_drew)); exact HO_169001.out⟩, ⟨by (with_reducible repeat (first | refine blk_drewN ?_ _ | refine blk_drew ?_ | refine blk_alloc ?_ _)); exact BK167.out⟩, ⟨by (with_reducible repeat (first | refine blk_drewN ?_ _ | refine blk_drew ?_ | refine blk_alloc ?_ _)); exact BK168.out⟩, ⟨by repeat (first | (with_reducible first | exact HB.out | apply below_alloc | apply pw_below_drewN | apply below_drew1 | refine below_set ?_ GE167.out | refine below_set ?_ GE168.out) | exact HB.out)⟩⟩
          · rw [if_neg c38] at H
            exact absurd H (by simp)
        ·
         rw [if_neg c34] at H
         have c34b0 : (t189 == 0) = false := beq_eq_false_iff_ne.mpr c34
         have c34b1 : (t189 != 0) = true := bne_iff_ne.mpr c34
         have H' := Aside0.mk H
         clear H
         have hnb42 := NB168_167.out
         have hnc42 := NB167_168.out
         have hcz43_0 : wc.cell? ⟨gb168, 0, none⟩ = some (.string t172) := (blk_cell BK168.out 0).trans rfl
         have hcz43_1 : wc.cell? ⟨gb168, 1, none⟩ = some (u169001) := (blk_cell BK168.out 1).trans rfl
         have hcz43_2 : wc.cell? ⟨gb168, 2, none⟩ = some (.string (⟨#[]⟩ : ByteArray)) := (blk_cell BK168.out 2).trans rfl
         have hcz43_3 : wc.cell? ⟨gb168, 3, none⟩ = some (.int .u64 0) := (blk_cell BK168.out 3).trans rfl
         have hcz43_4 : wc.cell? ⟨gb168, 4, none⟩ = some (.string (⟨#[]⟩ : ByteArray)) := (blk_cell BK168.out 4).trans rfl
         have hfz43_0 := blk_frozen BK168.out 0
         have hfz43_1 := blk_frozen BK168.out 1
         have hfz43_2 := blk_frozen BK168.out 2
         have hfz43_3 := blk_frozen BK168.out 3
         have hfz43_4 := blk_frozen BK168.out 4
         go_wp2
         go_meet
         case rel => exact ⟨_, (true), (by first | rfl | (simp; done) | (simp [*]; done)), H', ⟨by have := HJ3.out; first | omega | exact Nat.le_refl _⟩, ⟨by (with_reducible repeat (first | apply Kd.R_alloc | apply Kd.R_drewN | apply Kd.R_drew)); exact HO_169001.out⟩, ⟨by (with_reducible repeat (first | refine blk_drewN ?_ _ | refine blk_drew ?_ | refine blk_alloc ?_ _)); exact BK167.out⟩, ⟨by (with_reducible repeat (first | refine blk_drewN ?_ _ | refine blk_drew ?_ | refine blk_alloc ?_ _)); exact BK168.out⟩, ⟨by repeat (first | (with_reducible first | exact HB.out | apply below_alloc | apply pw_below_drewN | apply below_drew1 | refine below_set ?_ GE167.out | refine below_set ?_ GE168.out) | exact HB.out)⟩⟩
       ·
        rw [if_neg c33] at H
        have c33b0 : ((t172.size : Int) == 32) = false := beq_eq_false_iff_ne.mpr c33
        have c33b1 : ((t172.size : Int) != 32) = true := bne_iff_ne.mpr c33
        (first | rw [c33b0] | (simp only [i64_w, i32_w]; rw [c33b0]) | skip)
        have H' := Aside0.mk H
        clear H
        have hnb44 := NB168_167.out
        have hnc44 := NB167_168.out
        have hcz45_0 : wc.cell? ⟨gb168, 0, none⟩ = some (.string t172) := (blk_cell BK168.out 0).trans rfl
        have hcz45_1 : wc.cell? ⟨gb168, 1, none⟩ = some (u169001) := (blk_cell BK168.out 1).trans rfl
        have hcz45_2 : wc.cell? ⟨gb168, 2, none⟩ = some (.string (⟨#[]⟩ : ByteArray)) := (blk_cell BK168.out 2).trans rfl
        have hcz45_3 : wc.cell? ⟨gb168, 3, none⟩ = some (.int .u64 0) := (blk_cell BK168.out 3).trans rfl
        have hcz45_4 : wc.cell? ⟨gb168, 4, none⟩ = some (.string (⟨#[]⟩ : ByteArray)) := (blk_cell BK168.out 4).trans rfl
        have hfz45_0 := blk_frozen BK168.out 0
        have hfz45_1 := blk_frozen BK168.out 1
        have hfz45_2 := blk_frozen BK168.out 2
        have hfz45_3 := blk_frozen BK168.out 3
        have hfz45_4 := blk_frozen BK168.out 4
        go_wp2
        go_meet
        case rel => exact ⟨_, (true), (by first | rfl | (simp; done) | (simp [*]; done)), H', ⟨by have := HJ3.out; first | omega | exact Nat.le_refl _⟩, ⟨by (with_reducible repeat (first | apply Kd.R_alloc | apply Kd.R_drewN | apply Kd.R_drew)); exact HO_169001.out⟩, ⟨by (with_reducible repeat (first | refine blk_drewN ?_ _ | refine blk_drew ?_ | refine blk_alloc ?_ _)); exact BK167.out⟩, ⟨by (with_reducible repeat (first | refine blk_drewN ?_ _ | refine blk_drew ?_ | refine blk_alloc ?_ _)); exact BK168.out⟩, ⟨by repeat (first | (with_reducible first | exact HB.out | apply below_alloc | apply pw_below_drewN | apply below_drew1 | refine below_set ?_ GE167.out | refine below_set ?_ GE168.out) | exact HB.out)⟩⟩
      · replace c32 := Bool.eq_false_iff.mpr c32
        subst c32
        have H1 : (pollardref07_GetCommit.j2 kj3 t186 t182 t188 true t172 x169001_3 (⟨#[]⟩ : ByteArray) 0 (⟨#[]⟩ : ByteArray)) = some (r1, r2, r3, r4, r5, r6) := by rw [if_neg (show ¬ (false = true) by decide)] at H; exact H
        clear H
        have H := H1
        clear H1
        have H' := Aside0.mk H
        clear H
        go_wp2
        go_meet
        case rel => exact ⟨_, (true), (by first | rfl | (simp; done) | (simp [*]; done)), H', ⟨by have := HJ3.out; first | omega | exact Nat.le_refl _⟩, ⟨by (with_reducible repeat (first | apply Kd.R_alloc | apply Kd.R_drewN | apply Kd.R_drew)); exact HO_169001.out⟩, ⟨by (with_reducible repeat (first | refine blk_drewN ?_ _ | refine blk_drew ?_ | refine blk_alloc ?_ _)); exact BK167.out⟩, ⟨by (with_reducible repeat (first | refine blk_drewN ?_ _ | refine blk_drew ?_ | refine blk_alloc ?_ _)); exact BK168.out⟩, ⟨by repeat (first | (with_reducible first | exact HB.out | apply below_alloc | apply pw_below_drewN | apply below_drew1 | refine below_set ?_ GE167.out | refine below_set ?_ GE168.out) | exact HB.out)⟩⟩
     · replace c31 := Bool.eq_false_iff.mpr c31
       subst c31
       have H1 : (pollardref07_GetCommit.j2 kj3 t186 t182 t188 true t172 x169001_3 (⟨#[]⟩ : ByteArray) 0 (⟨#[]⟩ : ByteArray)) = some (r1, r2, r3, r4, r5, r6) := by rw [if_neg (show ¬ (false = true) by decide)] at H; exact H
       clear H
       have H := H1
       clear H1
       have H' := Aside0.mk H
       clear H
       go_wp2
       go_meet
       case rel => exact ⟨_, (true), (by first | rfl | (simp; done) | (simp [*]; done)), H', ⟨by have := HJ3.out; first | omega | exact Nat.le_refl _⟩, ⟨by (with_reducible repeat (first | apply Kd.R_alloc | apply Kd.R_drewN | apply Kd.R_drew)); exact HO_169001.out⟩, ⟨by (with_reducible repeat (first | refine blk_drewN ?_ _ | refine blk_drew ?_ | refine blk_alloc ?_ _)); exact BK167.out⟩, ⟨by (with_reducible repeat (first | refine blk_drewN ?_ _ | refine blk_drew ?_ | refine blk_alloc ?_ _)); exact BK168.out⟩, ⟨by repeat (first | (with_reducible first | exact HB.out | apply below_alloc | apply pw_below_drewN | apply below_drew1 | refine below_set ?_ GE167.out | refine below_set ?_ GE168.out) | exact HB.out)⟩⟩
    · replace c30 := Bool.eq_false_iff.mpr c30
      subst c30
      have H1 : (pollardref07_GetCommit.j2 kj3 t186 t182 t188 true t172 x169001_3 (⟨#[]⟩ : ByteArray) 0 (⟨#[]⟩ : ByteArray)) = some (r1, r2, r3, r4, r5, r6) := by rw [if_neg (show ¬ (false = true) by decide)] at H; exact H
      clear H
      have H := H1
      clear H1
      have H' := Aside0.mk H
      clear H
      go_wp2
      go_meet
      case rel => exact ⟨_, (true), (by first | rfl | (simp; done) | (simp [*]; done)), H', ⟨by have := HJ3.out; first | omega | exact Nat.le_refl _⟩, ⟨by (with_reducible repeat (first | apply Kd.R_alloc | apply Kd.R_drewN | apply Kd.R_drew)); exact HO_169001.out⟩, ⟨by (with_reducible repeat (first | refine blk_drewN ?_ _ | refine blk_drew ?_ | refine blk_alloc ?_ _)); exact BK167.out⟩, ⟨by (with_reducible repeat (first | refine blk_drewN ?_ _ | refine blk_drew ?_ | refine blk_alloc ?_ _)); exact BK168.out⟩, ⟨by repeat (first | (with_reducible first | exact HB.out | apply below_alloc | apply pw_below_drewN | apply below_drew1 | refine below_set ?_ GE167.out | refine below_set ?_ GE168.out) | exact HB.out)⟩⟩
   case rest =>
    clear HC29
    try clear c1
    try clear c2
    try clear p2
    try clear c3
    try clear p3
    try clear q3
    try clear hx3
    try clear qi3
    try clear c4
    try clear c7
    try clear c8
    try clear c11
    try clear c13
    try clear c15
    try clear c16
    try clear c18
    try clear c24
    try clear c25
    try clear c26
    try clear c30
    try clear c31
    try clear c32
    try clear c33
    try clear c33b0
    try clear c33b1
    try clear c34
    try clear c34b0
    try clear c34b1
    try clear c35
    try clear c35b0
    try clear c35b1
    try clear c36
    try clear c38
    try clear c38b0
    try clear c38b1
    try clear p39
    try clear q39
    try clear hx39
    try clear qi39
    try clear c40
    try clear c42
    try clear c44
    try clear hcz10_0
    try clear hcz10_1
    try clear hcz10_2
    try clear hcz10_3
    try clear hcz10_4
    try clear hcz19_0
    try clear hcz19_1
    try clear hcz19_2
    try clear hcz19_3
    try clear hcz19_4
    try clear hcz22_0
    try clear hcz22_1
    try clear hcz22_2
    try clear hcz22_3
    try clear hcz22_4
    try clear hcz25_0
    try clear hcz25_1
    try clear hcz25_2
    try clear hcz25_3
    try clear hcz25_4
    try clear hcz37_0
    try clear hcz37_1
    try clear hcz37_2
    try clear hcz37_3
    try clear hcz37_4
    try clear hcz41_0
    try clear hcz41_1
    try clear hcz41_2
    try clear hcz41_3
    try clear hcz41_4
    try clear hcz43_0
    try clear hcz43_1
    try clear hcz43_2
    try clear hcz43_3
    try clear hcz43_4
    try clear hcz45_0
    try clear hcz45_1
    try clear hcz45_2
    try clear hcz45_3
    try clear hcz45_4
    try clear hcz8_0
    try clear hcz8_1
    try clear hcz8_2
    try clear hcz8_3
    try clear hcz8_4
    try clear hfz10_0
    try clear hfz10_1
    try clear hfz10_2
    try clear hfz10_3
    try clear hfz10_4
    try clear hfz19_0
    try clear hfz19_1
    try clear hfz19_2
    try clear hfz19_3
    try clear hfz19_4
    try clear hfz22_0
    try clear hfz22_1
    try clear hfz22_2
    try clear hfz22_3
    try clear hfz22_4
    try clear hfz25_0
    try clear hfz25_1
    try clear hfz25_2
    try clear hfz25_3
    try clear hfz25_4
    try clear hfz37_0
    try clear hfz37_1
    try clear hfz37_2
    try clear hfz37_3
    try clear hfz37_4
    try clear hfz41_0
    try clear hfz41_1
    try clear hfz41_2
    try clear hfz41_3
    try clear hfz41_4
    try clear hfz43_0
    try clear hfz43_1
    try clear hfz43_2
    try clear hfz43_3
    try clear hfz43_4
    try clear hfz45_0
    try clear hfz45_1
    try clear hfz45_2
    try clear hfz45_3
    try clear hfz45_4
    try clear hfz8_0
    try clear hfz8_1
    try clear hfz8_2
    try clear hfz8_3
    try clear hfz8_4
    try clear p2
    try clear p39
    try clear q39
    obtain ⟨kq, x103_28, rfl, HA, HJ28, HO_169001, BK167, BK168, HB⟩ := hcut
    cases kq with
    | zero => exact absurd HA.out (by simp [pollardref07_GetCommit.j2])
    | succ kj28 =>
     have H := HA.out
     clear HA
     simp only [pollardref07_GetCommit.j2] at H
     by_cases c46 : x103_28 = true
     ·
      subst c46
      have H1 : (some ((⟨#[]⟩ : ByteArray), ([] : List ByteArray), (⟨#[]⟩ : ByteArray), 0, (⟨#[]⟩ : ByteArray), 6)) = some (r1, r2, r3, r4, r5, r6) := by rw [if_pos rfl] at H; exact H
      clear H
      have H := H1
      clear H1
      simp only [Option.some.injEq, Prod.mk.injEq] at H
      obtain ⟨rfl, rfl, rfl, rfl, rfl, rfl⟩ := H
      have hnb47 := NB167_168.out
      have hnc47 := NB168_167.out
      have hcz48_0 : wc.cell? ⟨gb167, 0, none⟩ = some (.string x168000_3) := (blk_cell BK167.out 0).trans rfl
      have hcz48_1 : wc.cell? ⟨gb167, 1, none⟩ = some (.slice none 0 0) := (blk_cell BK167.out 1).trans rfl
      have hcz48_2 : wc.cell? ⟨gb167, 2, none⟩ = some (.string x168002_3) := (blk_cell BK167.out 2).trans rfl
      have hcz48_3 : wc.cell? ⟨gb167, 3, none⟩ = some (.int .u64 x168003_3) := (blk_cell BK167.out 3).trans rfl
      have hcz48_4 : wc.cell? ⟨gb167, 4, none⟩ = some (.string x168004_3) := (blk_cell BK167.out 4).trans rfl
      have hfz48_0 := blk_frozen BK167.out 0
      have hfz48_1 := blk_frozen BK167.out 1
      have hfz48_2 := blk_frozen BK167.out 2
      have hfz48_3 := blk_frozen BK167.out 3
      have hfz48_4 := blk_frozen BK167.out 4
      go_wp2
      refine bodyPost_ret (results_ct rfl _ _ gb167 30 #[.string (⟨#[]⟩ : ByteArray), .slice none 0 0, .string (⟨#[]⟩ : ByteArray), .int .u64 0, .string (⟨#[]⟩ : ByteArray)] (0, 0) _ rfl (by (with_reducible repeat (first | refine blk_drewN ?_ _ | refine blk_drew ?_ | refine blk_alloc ?_ _)); refine blk_put (cs := #[.string (⟨#[]⟩ : ByteArray), .slice none 0 0, .string (⟨#[]⟩ : ByteArray), .int .u64 0, .string x168004_3]) ?_ 4 _ rfl; (with_reducible repeat (first | refine blk_drewN ?_ _ | refine blk_drew ?_ | refine blk_alloc ?_ _)); refine blk_put (cs := #[.string (⟨#[]⟩ : ByteArray), .slice none 0 0, .string (⟨#[]⟩ : ByteArray), .int .u64 x168003_3, .string x168004_3]) ?_ 3 _ rfl; (with_reducible repeat (first | refine blk_drewN ?_ _ | refine blk_drew ?_ | refine blk_alloc ?_ _)); refine blk_put (cs := #[.string (⟨#[]⟩ : ByteArray), .slice none 0 0, .string x168002_3, .int .u64 x168003_3, .string x168004_3]) ?_ 2 _ rfl; (with_reducible repeat (first | refine blk_drewN ?_ _ | refine blk_drew ?_ | refine blk_alloc ?_ _)); refine blk_put (cs := #[.string (⟨#[]⟩ : ByteArray), .slice none 0 0, .string x168002_3, .int .u64 x168003_3, .string x168004_3]) ?_ 1 _ rfl; (with_reducible repeat (first | refine blk_drewN ?_ _ | refine blk_drew ?_ | refine blk_alloc ?_ _)); refine blk_put (cs := #[.string x168000_3, .slice none 0 0, .string x168002_3, .int .u64 x168003_3, .string x168004_3]) ?_ 0 _ rfl; (with_reducible repeat (first | refine blk_drewN ?_ _ | refine blk_drew ?_ | refine blk_alloc ?_ _)); exact BK167.out) Tryd.underlying30 rfl (by kernel_rfl)) rfl ?_
      exact ⟨_, by first | rfl | (simp [errW_none, errW_some] <;> rfl) | (simp [*, errW_none, errW_some] <;> rfl), by first | exact Kd.R_nil _ _ _ _ _ | exact Kd.N_nil _ _ _ _ _ | exact Kd.V_nil _ _ _ _ _ | exact Kd.Q_nil _ _ _ _ _ | exact Kd.S_nil _ _ _ _ _, by repeat (first | (with_reducible first | exact HB.out | apply below_alloc | apply pw_below_drewN | apply below_drew1 | refine below_set ?_ GE167.out | refine below_set ?_ GE168.out) | exact HB.out)⟩
     ·
      replace c46 := Bool.eq_false_iff.mpr c46
      subst c46
      have H1 : (if 1 ≤ (t186.size : Int) then ((pollardref07_CheckCommit.f kj28 t172 x169001_3 t182 t188 (t186.extract 1 t186.size)).bind fun t190 => (if t190 = 0 then (some (t172, x169001_3, t182, t188, t186.extract 1 t186.size, 0)) else (some ((⟨#[]⟩ : ByteArray), ([] : List ByteArray), (⟨#[]⟩ : ByteArray), 0, (⟨#[]⟩ : ByteArray), t190)))) else (none)) = some (r1, r2, r3, r4, r5, r6) := by rw [if_neg (show ¬ (false = true) by decide)] at H; exact H
      clear H
      have H := H1
      clear H1
      by_cases c49 : 1 ≤ (t186.size : Int)
      ·
       rw [if_pos c49] at H
       have c49b0 := eq_true c49
       have c49b1 : decide (1 ≤ (t186.size : Int)) = true := decide_eq_true c49
       clear c49
       replace H := Option.bind_eq_some_iff.mp H
       obtain ⟨t190, A500, H⟩ := H
       replace H : (if t190 = 0 then (some (t172, x169001_3, t182, t188, t186.extract 1 t186.size, 0)) else (some ((⟨#[]⟩ : ByteArray), ([] : List ByteArray), (⟨#[]⟩ : ByteArray), 0, (⟨#[]⟩ : ByteArray), t190))) = some (r1, r2, r3, r4, r5, r6) := H
       have A50 := Aside0.mk A500
       clear A500
       by_cases c51 : t190 = 0
       ·
        rw [if_pos c51] at H
        have c51b0 : (t190 == 0) = true := beq_iff_eq.mpr c51
        have c51b1 : (t190 != 0) = false := bne_eq_false_iff_eq.mpr c51
        clear c51
        simp only [Option.some.injEq, Prod.mk.injEq] at H
        obtain ⟨rfl, rfl, rfl, rfl, rfl, rfl⟩ := H
        try go_wp2
        have n0_ := Aside0.mk (Kd.R_drew HO_169001.out)
        have n1_ := Aside0.mk (blk_drew BK167.out)
        have n2_ := Aside0.mk (blk_drew BK168.out)
        have n3_ := Aside0.mk (below_drew1 HB.out)
        clear HO_169001
        clear BK167
        clear BK168
        clear HB
        have HO_169001 := n0_
        have BK167 := n1_
        have BK168 := n2_
        have HB := n3_
        clear n0_ n1_ n2_ n3_
        refine start_ (n := 10) (S := fun w' => True) (ds := []) #[false, false, false, false, false, false, false, false, false, false] (by kernel_rfl) rfl rfl trivial (fun hHeld => ?_); refine with_tabW pollardref07_GetCommit.tab16 pollardref07_GetCommit.bits16 (fun HT_ HW_ => ?_)
        generalize wc.drew = w52 at HO_169001 BK167 BK168 HB hHeld ⊢
        refine pure_ (i := 0) (N := some 105) (v := ?_) (a' := ?_) #[true, false, false, false, false, false, false, false, false, false] rfl rfl (any_of HT_.out (by kernel_rfl)) (fun _ _ _ h => h) (Or.inl ⟨by rfl, ?_⟩) ?_ ?_
        rotate_left
        · intro w'
          go_simp
          with_reducible rfl
        rotate_left
        · simp only [Act.put, List.setIfInBounds_toArray, List.set_cons_zero, List.set_cons_succ, i64_w, i32_w]
          rfl
        refine pure_ (i := 1) (N := some 106) (v := ?_) (a' := ?_) #[true, true, false, false, false, false, false, false, false, false] rfl rfl (any_of HT_.out (by kernel_rfl)) (fun _ _ _ h => h) (Or.inl ⟨by rfl, ?_⟩) ?_ ?_
        rotate_left
        · intro w'
          go_simp
          with_reducible rfl
        rotate_left
        · simp only [Act.put, List.setIfInBounds_toArray, List.set_cons_zero, List.set_cons_succ, i64_w, i32_w]
          rfl
        refine pure_ (i := 2) (N := some 107) (v := ?_) (a' := ?_) #[true, true, true, false, false, false, false, false, false, false] rfl rfl (any_of HT_.out (by kernel_rfl)) (fun _ _ _ h => h) (Or.inl ⟨by rfl, ?_⟩) ?_ ?_
        rotate_left
        · intro w'
          go_simp
          with_reducible rfl
        rotate_left
        · simp only [Act.put, List.setIfInBounds_toArray, List.set_cons_zero, List.set_cons_succ, i64_w, i32_w]
          rfl
        refine pure_ (i := 3) (N := some 108) (v := ?_) (a' := ?_) #[true, true, true, true, false, false, false, false, false, false] rfl rfl (any_of HT_.out (by kernel_rfl)) (fun _ _ _ h => h) (Or.inl ⟨by rfl, ?_⟩) ?_ ?_
        rotate_left
        · intro w'
          go_simp
          with_reducible rfl
        rotate_left
        · simp only [Act.put, List.setIfInBounds_toArray, List.set_cons_zero, List.set_cons_succ, i64_w, i32_w]
          rfl
        refine pure_ (i := 4) (N := some 109) (v := ?_) (a' := ?_) #[true, true, true, true, true, false, false, false, false, false] rfl rfl (any_of HT_.out (by kernel_rfl)) (fun _ _ _ h => h) (Or.inl ⟨by rfl, ?_⟩) ?_ ?_
        rotate_left
        · intro w'
          go_simp
          with_reducible rfl
        rotate_left
        · simp only [Act.put, List.setIfInBounds_toArray, List.set_cons_zero, List.set_cons_succ, i64_w, i32_w]
          rfl
        refine one_ (i := 5) (N := none) #[true, true, true, true, true, true, false, false, false, false] rfl rfl (one_of HT_.out (by kernel_rfl)) (by decide) (fun K hK => ?_)
        have hs53 : w52.cell? ⟨gb168, 2, none⟩ = some (.string (⟨#[]⟩ : ByteArray)) := (blk_cell BK168.out 2).trans rfl
        have hfs53 := blk_frozen BK168.out 2
        have hns53_0 := NB167_168.out
        have hms53_0 := NB168_167.out
        refine skip_ (w1 := ?_) (by rfl) rfl ?_ ?_
        rotate_left
        · go_simp
          rfl
        refine hK.out _ _ trivial (fun hHeld => ?_)
        clear hK K
        refine pure_ (i := 6) (N := some 110) (v := ?_) (a' := ?_) #[true, true, true, true, true, true, true, false, false, false] rfl rfl (any_of HT_.out (by kernel_rfl)) (fun _ _ _ h => h) (Or.inl ⟨by rfl, ?_⟩) ?_ ?_
        rotate_left
        · intro w'
          go_simp
          with_reducible rfl
        rotate_left
        · simp only [Act.put, List.setIfInBounds_toArray, List.set_cons_zero, List.set_cons_succ, i64_w, i32_w]
          rfl
        refine one_ (i := 7) (N := none) #[true, true, true, true, true, true, true, true, false, false] rfl rfl (one_of HT_.out (by kernel_rfl)) (by decide) (fun K hK => ?_)
        have hs54 : w52.cell? ⟨gb168, 3, none⟩ = some (.int .u64 0) := (blk_cell BK168.out 3).trans rfl
        have hfs54 := blk_frozen BK168.out 3
        have hns54_0 := NB167_168.out
        have hms54_0 := NB168_167.out
        refine skip_ (w1 := ?_) (by rfl) rfl ?_ ?_
        rotate_left
        · go_simp
          rfl
        refine hK.out _ _ trivial (fun hHeld => ?_)
        clear hK K
        refine pure_ (i := 8) (N := some 111) (v := ?_) (a' := ?_) #[true, true, true, true, true, true, true, true, true, false] rfl rfl (any_of HT_.out (by kernel_rfl)) (fun _ _ _ h => h) (Or.inl ⟨by rfl, ?_⟩) ?_ ?_
        rotate_left
        · intro w'
          go_simp
          with_reducible rfl
        rotate_left
        · simp only [Act.put, List.setIfInBounds_toArray, List.set_cons_zero, List.set_cons_succ, i64_w, i32_w]
          rfl
        refine one_ (i := 9) (N := none) #[true, true, true, true, true, true, true, true, true, true] rfl rfl (one_of HT_.out (by kernel_rfl)) (by decide) (fun K hK => ?_)
        have hs55 : w52.cell? ⟨gb168, 4, none⟩ = some (.string (⟨#[]⟩ : ByteArray)) := (blk_cell BK168.out 4).trans rfl
        have hfs55 := blk_frozen BK168.out 4
        have hns55_0 := NB167_168.out
        have hms55_0 := NB168_167.out
        refine skip_ (w1 := ?_) (by rfl) rfl ?_ ?_
        rotate_left
        · go_simp
          rfl
        refine hK.out _ _ trivial (fun hHeld => ?_)
        clear hK K
        refine done_ (done_of HT_.out (by kernel_rfl)) ?_
        have hnb56 := NB168_167.out
        have hnc56 := NB167_168.out
        have hcz57_0 : w52.cell? ⟨gb168, 0, none⟩ = some (.string t172) := (blk_cell BK168.out 0).trans rfl
        have hcz57_1 : w52.cell? ⟨gb168, 1, none⟩ = some (u169001) := (blk_cell BK168.out 1).trans rfl
        have hcz57_2 : w52.cell? ⟨gb168, 2, none⟩ = some (.string (⟨#[]⟩ : ByteArray)) := (blk_cell BK168.out 2).trans rfl
        have hcz57_3 : w52.cell? ⟨gb168, 3, none⟩ = some (.int .u64 0) := (blk_cell BK168.out 3).trans rfl
        have hcz57_4 : w52.cell? ⟨gb168, 4, none⟩ = some (.string (⟨#[]⟩ : ByteArray)) := (blk_cell BK168.out 4).trans rfl
        have hfz57_0 := blk_frozen BK168.out 0
        have hfz57_1 := blk_frozen BK168.out 1
        have hfz57_2 := blk_frozen BK168.out 2
        have hfz57_3 := blk_frozen BK168.out 3
        have hfz57_4 := blk_frozen BK168.out 4
        obtain ⟨Ao58, co58, eo58⟩ := Kd.R_slice HO_169001.out
        subst eo58
        try go_wp2_with (first | ((with_reducible refine gate_callee (f := 13) rfl ?_); refine goesL_ (some 113) rfl rfl Tryd.func13 (by kernel_rfl) rfl #[.agg #[.string t172, .slice Ao58 x169001_3.length co58, .string t182, .int .u64 t188, .string (t186.extract 1 t186.size)]] rfl (by (try simp only [List.map_toArray, List.map_cons, List.map_nil]); first | done | rfl | (simp only [List.length_drop, List.length_take]; rfl)) ?_; (with_reducible refine (pollardref07_CheckCommit.calls kj28 t172 _ _ x169001_3 t182 t188 (t186.extract 1 t186.size) t190 _ ?side1 ?side2 A50.out).mono ?_); (case side1 => refine (Kd.R_reads' (e := 9) (base := w.heap.size) (ok := fun k_ => True) (n := x169001_3.length) (c := co58) ?_).2.2; exact (by (with_reducible repeat (first | apply Kd.R_alloc | apply Kd.R_drewN | apply Kd.R_drew)); exact (Kd.R_mono (Kd.R_far (p := ⟨gb168, 4, none⟩) (Kd.R_far (p := ⟨gb168, 3, none⟩) (Kd.R_far (p := ⟨gb168, 2, none⟩) (Kd.R_types HO_169001.out BK168.out (by decide)) (fun _ hk => hk.2) (.string t182)) (fun _ hk => hk.2) (.int .u64 t188)) (fun _ hk => hk.2) (.string (t186.extract 1 t186.size))) (fun _ h_ => h_.1)))); (case side2 => exact (Kd.R_reads' HO_169001.out).2.1); rintro e w59 ⟨rfl, hb⟩; refine ⟨_, rfl, ?_⟩; have n0_ := Aside0.mk (Kd.R_below (by (with_reducible repeat (first | apply Kd.R_alloc | apply Kd.R_drewN | apply Kd.R_drew)); exact (Kd.R_mono (Kd.R_far (p := ⟨gb168, 4, none⟩) (Kd.R_far (p := ⟨gb168, 3, none⟩) (Kd.R_far (p := ⟨gb168, 2, none⟩) (Kd.R_types HO_169001.out BK168.out (by decide)) (fun _ hk => hk.2) (.string t182)) (fun _ hk => hk.2) (.int .u64 t188)) (fun _ hk => hk.2) (.string (t186.extract 1 t186.size))) (fun _ h_ => h_.1))) hb); have n1_ := Aside0.mk (blk_below (g := gb167) (o := .cells #[.string x168000_3, .slice none 0 0, .string x168002_3, .int .u64 x168003_3, .string x168004_3] 30 (0, 0)) (by (with_reducible repeat (first | refine blk_drewN ?_ _ | refine blk_drew ?_ | refine blk_alloc ?_ _)); refine blk_far ?_ NB167_168.out _; (with_reducible repeat (first | refine blk_drewN ?_ _ | refine blk_drew ?_ | refine blk_alloc ?_ _)); refine blk_far ?_ NB167_168.out _; (with_reducible repeat (first | refine blk_drewN ?_ _ | refine blk_drew ?_ | refine blk_alloc ?_ _)); refine blk_far ?_ NB167_168.out _; (with_reducible repeat (first | refine blk_drewN ?_ _ | refine blk_drew ?_ | refine blk_alloc ?_ _)); exact BK167.out) hb); have n2_ := Aside0.mk (blk_below (g := gb168) (o := .cells #[.string t172, .slice Ao58 x169001_3.length co58, .string t182, .int .u64 t188, .string (t186.extract 1 t186.size)] 30 (0, 0)) (by (with_reducible repeat (first | refine blk_drewN ?_ _ | refine blk_drew ?_ | refine blk_alloc ?_ _)); refine blk_put (cs := #[.string t172, .slice Ao58 x169001_3.length co58, .string t182, .int .u64 t188, .string (⟨#[]⟩ : ByteArray)]) ?_ 4 _ rfl; (with_reducible repeat (first | refine blk_drewN ?_ _ | refine blk_drew ?_ | refine blk_alloc ?_ _)); refine blk_put (cs := #[.string t172, .slice Ao58 x169001_3.length co58, .string t182, .int .u64 0, .string (⟨#[]⟩ : ByteArray)]) ?_ 3 _ rfl; (with_reducible repeat (first | refine blk_drewN ?_ _ | refine blk_drew ?_ | refine blk_alloc ?_ _)); refine blk_put (cs := #[.string t172, .slice Ao58 x169001_3.length co58, .string (⟨#[]⟩ : ByteArray), .int .u64 0, .string (⟨#[]⟩ : ByteArray)]) ?_ 2 _ rfl; (with_reducible repeat (first | refine blk_drewN ?_ _ | refine blk_drew ?_ | refine blk_alloc ?_ _)); exact BK168.out) hb); have n3_ := Aside0.mk (below_step (by repeat (first | (with_reducible first | exact HB.out | apply below_alloc | apply pw_below_drewN | apply below_drew1 | refine below_set ?_ GE167.out | refine below_set ?_ GE168.out) | exact HB.out)) hb); clear HO_169001; clear BK167; clear BK168; clear HB; have HO_169001 := n0_; have BK167 := n1_; have BK168 := n2_; have HB := n3_; clear n0_ n1_ n2_ n3_; (try clear hb); (try clear hb2); (try clear hk); (try clear hi); have hcz60_0 : w59.cell? ⟨gb168, 0, none⟩ = some (.string t172) := (blk_cell BK168.out 0).trans rfl; have hcz60_1 : w59.cell? ⟨gb168, 1, none⟩ = some (.slice Ao58 x169001_3.length co58) := (blk_cell BK168.out 1).trans rfl; have hcz60_2 : w59.cell? ⟨gb168, 2, none⟩ = some (.string t182) := (blk_cell BK168.out 2).trans rfl; have hcz60_3 : w59.cell? ⟨gb168, 3, none⟩ = some (.int .u64 t188) := (blk_cell BK168.out 3).trans rfl; have hcz60_4 : w59.cell? ⟨gb168, 4, none⟩ = some (.string (t186.extract 1 t186.size)) := (blk_cell BK168.out 4).trans rfl; have hfz60_0 := blk_frozen BK168.out 0; have hfz60_1 := blk_frozen BK168.out 1; have hfz60_2 := blk_frozen BK168.out 2; have hfz60_3 := blk_frozen BK168.out 3; have hfz60_4 := blk_frozen BK168.out 4; have hcz61_0 : w59.cell? ⟨gb167, 0, none⟩ = some (.string x168000_3) := (blk_cell BK167.out 0).trans rfl; have hcz61_1 : w59.cell? ⟨gb167, 1, none⟩ = some (.slice none 0 0) := (blk_cell BK167.out 1).trans rfl; have hcz61_2 : w59.cell? ⟨gb167, 2, none⟩ = some (.string x168002_3) := (blk_cell BK167.out 2).trans rfl; have hcz61_3 : w59.cell? ⟨gb167, 3, none⟩ = some (.int .u64 x168003_3) := (blk_cell BK167.out 3).trans rfl; have hcz61_4 : w59.cell? ⟨gb167, 4, none⟩ = some (.string x168004_3) := (blk_cell BK167.out 4).trans rfl; have hfz61_0 := blk_frozen BK167.out 0; have hfz61_1 := blk_frozen BK167.out 1; have hfz61_2 := blk_frozen BK167.out 2; have hfz61_3 := blk_frozen BK167.out 3; have hfz61_4 := blk_frozen BK167.out 4))
        refine bodyPost_ret (results_ct rfl _ _ gb167 30 #[.string t172, .slice Ao58 x169001_3.length co58, .string t182, .int .u64 t188, .string (t186.extract 1 t186.size)] (0, 0) _ rfl (by (with_reducible repeat (first | refine blk_drewN ?_ _ | refine blk_drew ?_ | refine blk_alloc ?_ _)); refine blk_put (cs := #[.string t172, .slice Ao58 x169001_3.length co58, .string t182, .int .u64 t188, .string x168004_3]) ?_ 4 _ rfl; (with_reducible repeat (first | refine blk_drewN ?_ _ | refine blk_drew ?_ | refine blk_alloc ?_ _)); refine blk_put (cs := #[.string t172, .slice Ao58 x169001_3.length co58, .string t182, .int .u64 x168003_3, .string x168004_3]) ?_ 3 _ rfl; (with_reducible repeat (first | refine blk_drewN ?_ _ | refine blk_drew ?_ | refine blk_alloc ?_ _)); refine blk_put (cs := #[.string t172, .slice Ao58 x169001_3.length co58, .string x168002_3, .int .u64 x168003_3, .string x168004_3]) ?_ 2 _ rfl; (with_reducible repeat (first | refine blk_drewN ?_ _ | refine blk_drew ?_ | refine blk_alloc ?_ _)); refine blk_put (cs := #[.string t172, .slice none 0 0, .string x168002_3, .int .u64 x168003_3, .string x168004_3]) ?_ 1 _ rfl; (with_reducible repeat (first | refine blk_drewN ?_ _ | refine blk_drew ?_ | refine blk_alloc ?_ _)); refine blk_put (cs := #[.string x168000_3, .slice none 0 0, .string x168002_3, .int .u64 x168003_3, .string x168004_3]) ?_ 0 _ rfl; (with_reducible repeat (first | refine blk_drewN ?_ _ | refine blk_drew ?_ | refine blk_alloc ?_ _)); exact BK167.out) Tryd.underlying30 rfl (by kernel_rfl)) rfl ?_
        exact ⟨_, by first | rfl | (simp [errW_none, errW_some] <;> rfl) | (simp [*, errW_none, errW_some] <;> rfl), by (with_reducible repeat (first | apply Kd.R_alloc | apply Kd.R_drewN | apply Kd.R_drew)); exact Kd.R_mono (Kd.R_far (p := ⟨gb167, 4, none⟩) (Kd.R_far (p := ⟨gb167, 3, none⟩) (Kd.R_far (p := ⟨gb167, 2, none⟩) (Kd.R_far (p := ⟨gb167, 1, none⟩) (Kd.R_far (p := ⟨gb167, 0, none⟩) (Kd.R_types HO_169001.out BK167.out (by decide)) (fun _ hk => hk.2) (.string t172)) (fun _ hk => hk.2) (.slice Ao58 x169001_3.length co58)) (fun _ hk => hk.2) (.string t182)) (fun _ hk => hk.2) (.int .u64 t188)) (fun _ hk => hk.2) (.string (t186.extract 1 t186.size))) (fun _ hk => trivial), by repeat (first | (with_reducible first | exact HB.out | apply below_alloc | apply pw_below_drewN | apply below_drew1 | refine below_set ?_ GE167.out | refine below_set ?_ GE168.out) | exact HB.out)⟩
       ·
        rw [if_neg c51] at H
        have c51b0 : (t190 == 0) = false := beq_eq_false_iff_ne.mpr c51
        have c51b1 : (t190 != 0) = true := bne_iff_ne.mpr c51
        simp only [Option.some.injEq, Prod.mk.injEq] at H
        obtain ⟨rfl, rfl, rfl, rfl, rfl, rfl⟩ := H
        try go_wp2
        have n0_ := Aside0.mk (Kd.R_drew HO_169001.out)
        have n1_ := Aside0.mk (blk_drew BK167.out)
        have n2_ := Aside0.mk (blk_drew BK168.out)
        have n3_ := Aside0.mk (below_drew1 HB.out)
        clear HO_169001
        clear BK167
        clear BK168
        clear HB
        have HO_169001 := n0_
        have BK167 := n1_
        have BK168 := n2_
        have HB := n3_
        clear n0_ n1_ n2_ n3_
        refine start_ (n := 10) (S := fun w' => True) (ds := []) #[false, false, false, false, false, false, false, false, false, false] (by kernel_rfl) rfl rfl trivial (fun hHeld => ?_); refine with_tabW pollardref07_GetCommit.tab16 pollardref07_GetCommit.bits16 (fun HT_ HW_ => ?_)
        generalize wc.drew = w62 at HO_169001 BK167 BK168 HB hHeld ⊢
        refine pure_ (i := 0) (N := some 105) (v := ?_) (a' := ?_) #[true, false, false, false, false, false, false, false, false, false] rfl rfl (any_of HT_.out (by kernel_rfl)) (fun _ _ _ h => h) (Or.inl ⟨by rfl, ?_⟩) ?_ ?_
        rotate_left
        · intro w'
          go_simp
          with_reducible rfl
        rotate_left
        · simp only [Act.put, List.setIfInBounds_toArray, List.set_cons_zero, List.set_cons_succ, i64_w, i32_w]
          rfl
        refine pure_ (i := 1) (N := some 106) (v := ?_) (a' := ?_) #[true, true, false, false, false, false, false, false, false, false] rfl rfl (any_of HT_.out (by kernel_rfl)) (fun _ _ _ h => h) (Or.inl ⟨by rfl, ?_⟩) ?_ ?_
        rotate_left
        · intro w'
          go_simp
          with_reducible rfl
        rotate_left
        · simp only [Act.put, List.setIfInBounds_toArray, List.set_cons_zero, List.set_cons_succ, i64_w, i32_w]
          rfl
        refine pure_ (i := 2) (N := some 107) (v := ?_) (a' := ?_) #[true, true, true, false, false, false, false, false, false, false] rfl rfl (any_of HT_.out (by kernel_rfl)) (fun _ _ _ h => h) (Or.inl ⟨by rfl, ?_⟩) ?_ ?_
        rotate_left
        · intro w'
          go_simp
          with_reducible rfl
        rotate_left
        · simp only [Act.put, List.setIfInBounds_toArray, List.set_cons_zero, List.set_cons_succ, i64_w, i32_w]
          rfl
        refine pure_ (i := 3) (N := some 108) (v := ?_) (a' := ?_) #[true, true, true, true, false, false, false, false, false, false] rfl rfl (any_of HT_.out (by kernel_rfl)) (fun _ _ _ h => h) (Or.inl ⟨by rfl, ?_⟩) ?_ ?_
        rotate_left
        · intro w'
          go_simp
          with_reducible rfl
        rotate_left
        · simp only [Act.put, List.setIfInBounds_toArray, List.set_cons_zero, List.set_cons_succ, i64_w, i32_w]
          rfl
        refine pure_ (i := 4) (N := some 109) (v := ?_) (a' := ?_) #[true, true, true, true, true, false, false, false, false, false] rfl rfl (any_of HT_.out (by kernel_rfl)) (fun _ _ _ h => h) (Or.inl ⟨by rfl, ?_⟩) ?_ ?_
        rotate_left
        · intro w'
          go_simp
          with_reducible rfl
        rotate_left
        · simp only [Act.put, List.setIfInBounds_toArray, List.set_cons_zero, List.set_cons_succ, i64_w, i32_w]
          rfl
        refine one_ (i := 5) (N := none) #[true, true, true, true, true, true, false, false, false, false] rfl rfl (one_of HT_.out (by kernel_rfl)) (by decide) (fun K hK => ?_)
        have hs63 : w62.cell? ⟨gb168, 2, none⟩ = some (.string (⟨#[]⟩ : ByteArray)) := (blk_cell BK168.out 2).trans rfl
        have hfs63 := blk_frozen BK168.out 2
        have hns63_0 := NB167_168.out
        have hms63_0 := NB168_167.out
        refine skip_ (w1 := ?_) (by rfl) rfl ?_ ?_
        rotate_left
        · go_simp
          rfl
        refine hK.out _ _ trivial (fun hHeld => ?_)
        clear hK K
        refine pure_ (i := 6) (N := some 110) (v := ?_) (a' := ?_) #[true, true, true, true, true, true, true, false, false, false] rfl rfl (any_of HT_.out (by kernel_rfl)) (fun _ _ _ h => h) (Or.inl ⟨by rfl, ?_⟩) ?_ ?_
        rotate_left
        · intro w'
          go_simp
          with_reducible rfl
        rotate_left
        · simp only [Act.put, List.setIfInBounds_toArray, List.set_cons_zero, List.set_cons_succ, i64_w, i32_w]
          rfl
        refine one_ (i := 7) (N := none) #[true, true, true, true, true, true, true, true, false, false] rfl rfl (one_of HT_.out (by kernel_rfl)) (by decide) (fun K hK => ?_)
        have hs64 : w62.cell? ⟨gb168, 3, none⟩ = some (.int .u64 0) := (blk_cell BK168.out 3).trans rfl
        have hfs64 := blk_frozen BK168.out 3
        have hns64_0 := NB167_168.out
        have hms64_0 := NB168_167.out
        refine skip_ (w1 := ?_) (by rfl) rfl ?_ ?_
        rotate_left
        · go_simp
          rfl
        refine hK.out _ _ trivial (fun hHeld => ?_)
        clear hK K
        refine pure_ (i := 8) (N := some 111) (v := ?_) (a' := ?_) #[true, true, true, true, true, true, true, true, true, false] rfl rfl (any_of HT_.out (by kernel_rfl)) (fun _ _ _ h => h) (Or.inl ⟨by rfl, ?_⟩) ?_ ?_
        rotate_left
        · intro w'
          go_simp
          with_reducible rfl
        rotate_left
        · simp only [Act.put, List.setIfInBounds_toArray, List.set_cons_zero, List.set_cons_succ, i64_w, i32_w]
          rfl
        refine one_ (i := 9) (N := none) #[true, true, true, true, true, true, true, true, true, true] rfl rfl (one_of HT_.out (by kernel_rfl)) (by decide) (fun K hK => ?_)
        have hs65 : w62.cell? ⟨gb168, 4, none⟩ = some (.string (⟨#[]⟩ : ByteArray)) := (blk_cell BK168.out 4).trans rfl
        have hfs65 := blk_frozen BK168.out 4
        have hns65_0 := NB167_168.out
        have hms65_0 := NB168_167.out
        refine skip_ (w1 := ?_) (by rfl) rfl ?_ ?_
        rotate_left
        · go_simp
          rfl
        refine hK.out _ _ trivial (fun hHeld => ?_)
        clear hK K
        refine done_ (done_of HT_.out (by kernel_rfl)) ?_
        have hnb66 := NB168_167.out
        have hnc66 := NB167_168.out
        have hcz67_0 : w62.cell? ⟨gb168, 0, none⟩ = some (.string t172) := (blk_cell BK168.out 0).trans rfl
        have hcz67_1 : w62.cell? ⟨gb168, 1, none⟩ = some (u169001) := (blk_cell BK168.out 1).trans rfl
        have hcz67_2 : w62.cell? ⟨gb168, 2, none⟩ = some (.string (⟨#[]⟩ : ByteArray)) := (blk_cell BK168.out 2).trans rfl
        have hcz67_3 : w62.cell? ⟨gb168, 3, none⟩ = some (.int .u64 0) := (blk_cell BK168.out 3).trans rfl
        have hcz67_4 : w62.cell? ⟨gb168, 4, none⟩ = some (.string (⟨#[]⟩ : ByteArray)) := (blk_cell BK168.out 4).trans rfl
        have hfz67_0 := blk_frozen BK168.out 0
        have hfz67_1 := blk_frozen BK168.out 1
        have hfz67_2 := blk_frozen BK168.out 2
        have hfz67_3 := blk_frozen BK168.out 3
        have hfz67_4 := blk_frozen BK168.out 4
        obtain ⟨Ao68, co68, eo68⟩ := Kd.R_slice HO_169001.out
        subst eo68
        try go_wp2_with (first | ((with_reducible refine gate_callee (f := 13) rfl ?_); refine goesL_ (some 113) rfl rfl Tryd.func13 (by kernel_rfl) rfl #[.agg #[.string t172, .slice Ao68 x169001_3.length co68, .string t182, .int .u64 t188, .string (t186.extract 1 t186.size)]] rfl (by (try simp only [List.map_toArray, List.map_cons, List.map_nil]); first | done | rfl | (simp only [List.length_drop, List.length_take]; rfl)) ?_; (with_reducible refine (pollardref07_CheckCommit.calls kj28 t172 _ _ x169001_3 t182 t188 (t186.extract 1 t186.size) t190 _ ?side1 ?side2 A50.out).mono ?_); (case side1 => refine (Kd.R_reads' (e := 9) (base := w.heap.size) (ok := fun k_ => True) (n := x169001_3.length) (c := co68) ?_).2.2; exact (by (with_reducible repeat (first | apply Kd.R_alloc | apply Kd.R_drewN | apply Kd.R_drew)); exact (Kd.R_mono (Kd.R_far (p := ⟨gb168, 4, none⟩) (Kd.R_far (p := ⟨gb168, 3, none⟩) (Kd.R_far (p := ⟨gb168, 2, none⟩) (Kd.R_types HO_169001.out BK168.out (by decide)) (fun _ hk => hk.2) (.string t182)) (fun _ hk => hk.2) (.int .u64 t188)) (fun _ hk => hk.2) (.string (t186.extract 1 t186.size))) (fun _ h_ => h_.1)))); (case side2 => exact (Kd.R_reads' HO_169001.out).2.1); rintro e w69 ⟨rfl, hb⟩; refine ⟨_, rfl, ?_⟩; have n0_ := Aside0.mk (Kd.R_below (by (with_reducible repeat (first | apply Kd.R_alloc | apply Kd.R_drewN | apply Kd.R_drew)); exact (Kd.R_mono (Kd.R_far (p := ⟨gb168, 4, none⟩) (Kd.R_far (p := ⟨gb168, 3, none⟩) (Kd.R_far (p := ⟨gb168, 2, none⟩) (Kd.R_types HO_169001.out BK168.out (by decide)) (fun _ hk => hk.2) (.string t182)) (fun _ hk => hk.2) (.int .u64 t188)) (fun _ hk => hk.2) (.string (t186.extract 1 t186.size))) (fun _ h_ => h_.1))) hb); have n1_ := Aside0.mk (blk_below (g := gb167) (o := .cells #[.string x168000_3, .slice none 0 0, .string x168002_3, .int .u64 x168003_3, .string x168004_3] 30 (0, 0)) (by (with_reducible repeat (first | refine blk_drewN ?_ _ | refine blk_drew ?_ | refine blk_alloc ?_ _)); refine blk_far ?_ NB167_168.out _; (with_reducible repeat (first | refine blk_drewN ?_ _ | refine blk_drew ?_ | refine blk_alloc ?_ _)); refine blk_far ?_ NB167_168.out _; (with_reducible repeat (first | refine blk_drewN ?_ _ | refine blk_drew ?_ | refine blk_alloc ?_ _)); refine blk_far ?_ NB167_168.out _; (with_reducible repeat (first | refine blk_drewN ?_ _ | refine blk_drew ?_ | refine blk_alloc ?_ _)); exact BK167.out) hb); have n2_ := Aside0.mk (blk_below (g := gb168) (o := .cells #[.string t172, .slice Ao68 x169001_3.length co68, .string t182, .int .u64 t188, .string (t186.extract 1 t186.size)] 30 (0, 0)) (by (with_reducible repeat (first | refine blk_drewN ?_ _ | refine blk_drew ?_ | refine blk_alloc ?_ _)); refine blk_put (cs := #[.string t172, .slice Ao68 x169001_3.length co68, .string t182, .int .u64 t188, .string (⟨#[]⟩ : ByteArray)]) ?_ 4 _ rfl; (with_reducible repeat (first | refine blk_drewN ?_ _ | refine blk_drew ?_ | refine blk_alloc ?_ _)); refine blk_put (cs := #[.string t172, .slice Ao68 x169001_3.length co68, .string t182, .int .u64 0, .string (⟨#[]⟩ : ByteArray)]) ?_ 3 _ rfl; (with_reducible repeat (first | refine blk_drewN ?_ _ | refine blk_drew ?_ | refine blk_alloc ?_ _)); refine blk_put (cs := #[.string t172, .slice Ao68 x169001_3.length co68, .string (⟨#[]⟩ : ByteArray), .int .u64 0, .string (⟨#[]⟩ : ByteArray)]) ?_ 2 _ rfl; (with_reducible repeat (first | refine blk_drewN ?_ _ | refine blk_drew ?_ | refine blk_alloc ?_ _)); exact BK168.out) hb); have n3_ := Aside0.mk (below_step (by repeat (first | (with_reducible first | exact HB.out | apply below_alloc | apply pw_below_drewN | apply below_drew1 | refine below_set ?_ GE167.out | refine below_set ?_ GE168.out) | exact HB.out)) hb); clear HO_169001; clear BK167; clear BK168; clear HB; have HO_169001 := n0_; have BK167 := n1_; have BK168 := n2_; have HB := n3_; clear n0_ n1_ n2_ n3_; (try clear hb); (try clear hb2); (try clear hk); (try clear hi); have hcz70_0 : w69.cell? ⟨gb167, 0, none⟩ = some (.string x168000_3) := (blk_cell BK167.out 0).trans rfl; have hcz70_1 : w69.cell? ⟨gb167, 1, none⟩ = some (.slice none 0 0) := (blk_cell BK167.out 1).trans rfl; have hcz70_2 : w69.cell? ⟨gb167, 2, none⟩ = some (.string x168002_3) := (blk_cell BK167.out 2).trans rfl; have hcz70_3 : w69.cell? ⟨gb167, 3, none⟩ = some (.int .u64 x168003_3) := (blk_cell BK167.out 3).trans rfl; have hcz70_4 : w69.cell? ⟨gb167, 4, none⟩ = some (.string x168004_3) := (blk_cell BK167.out 4).trans rfl; have hfz70_0 := blk_frozen BK167.out 0; have hfz70_1 := blk_frozen BK167.out 1; have hfz70_2 := blk_frozen BK167.out 2; have hfz70_3 := blk_frozen BK167.out 3; have hfz70_4 := blk_frozen BK167.out 4))
        refine bodyPost_ret (results_ct rfl _ _ gb167 30 #[.string (⟨#[]⟩ : ByteArray), .slice none 0 0, .string (⟨#[]⟩ : ByteArray), .int .u64 0, .string (⟨#[]⟩ : ByteArray)] (0, 0) _ rfl (by (with_reducible repeat (first | refine blk_drewN ?_ _ | refine blk_drew ?_ | refine blk_alloc ?_ _)); refine blk_put (cs := #[.string (⟨#[]⟩ : ByteArray), .slice none 0 0, .string (⟨#[]⟩ : ByteArray), .int .u64 0, .string x168004_3]) ?_ 4 _ rfl; (with_reducible repeat (first | refine blk_drewN ?_ _ | refine blk_drew ?_ | refine blk_alloc ?_ _)); refine blk_put (cs := #[.string (⟨#[]⟩ : ByteArray), .slice none 0 0, .string (⟨#[]⟩ : ByteArray), .int .u64 x168003_3, .string x168004_3]) ?_ 3 _ rfl; (with_reducible repeat (first | refine blk_drewN ?_ _ | refine blk_drew ?_ | refine blk_alloc ?_ _)); refine blk_put (cs := #[.string (⟨#[]⟩ : ByteArray), .slice none 0 0, .string x168002_3, .int .u64 x168003_3, .string x168004_3]) ?_ 2 _ rfl; (with_reducible repeat (first | refine blk_drewN ?_ _ | refine blk_drew ?_ | refine blk_alloc ?_ _)); refine blk_put (cs := #[.string (⟨#[]⟩ : ByteArray), .slice none 0 0, .string x168002_3, .int .u64 x168003_3, .string x168004_3]) ?_ 1 _ rfl; (with_reducible repeat (first | refine blk_drewN ?_ _ | refine blk_drew ?_ | refine blk_alloc ?_ _)); refine blk_put (cs := #[.string x168000_3, .slice none 0 0, .string x168002_3, .int .u64 x168003_3, .string x168004_3]) ?_ 0 _ rfl; (with_reducible repeat (first | refine blk_drewN ?_ _ | refine blk_drew ?_ | refine blk_alloc ?_ _)); exact BK167.out) Tryd.underlying30 rfl (by kernel_rfl)) rfl ?_
        exact ⟨_, by first | rfl | (simp [errW_none, errW_some] <;> rfl) | (simp [*, errW_none, errW_some] <;> rfl), by first | exact Kd.R_nil _ _ _ _ _ | exact Kd.N_nil _ _ _ _ _ | exact Kd.V_nil _ _ _ _ _ | exact Kd.Q_nil _ _ _ _ _ | exact Kd.S_nil _ _ _ _ _, by repeat (first | (with_reducible first | exact HB.out | apply below_alloc | apply pw_below_drewN | apply below_drew1 | refine below_set ?_ GE167.out | refine below_set ?_ GE168.out) | exact HB.out)⟩
      · rw [if_neg c49] at H
        exact absurd H (by simp)

end Go.Proofs.YtnapcfpecpgdbaaDoor.M
