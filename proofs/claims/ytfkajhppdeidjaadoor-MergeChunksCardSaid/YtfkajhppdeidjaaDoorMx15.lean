/- The program's functions as plain functions, and that each call comes to what these tell; written by a program of this session, some contracts by hand. Conditions: none. -/
import Derived.Test.YtfkajhppdeidjaaDoorMx0
import Derived.Test.YtfkajhppdeidjaaDoorMx5
import Derived.Test.YtfkajhppdeidjaaDoorMx6
import Derived.Test.YtfkajhppdeidjaaDoorMx9
import Derived.Test.YtfkajhppdeidjaaDoorMx11
import Derived.Test.YtfkajhppdeidjaaDoorMx14
namespace Go.Proofs.YtfkajhppdeidjaaDoor.M
open Go.RowKit Go.Proofs.YtfkajhppdeidjaaDoorW.PrintWords Go.Proofs.YtfkajhppdeidjaaDoorW.PrintLast Go.Proofs.YtfkajhppdeidjaaDoorW.PrintMore
attribute [local go_sem] max2_int min2_int max_two min_two max_three min_three max_four min_four   -- for this text's walks alone
set_option linter.unusedVariables false
set_option linter.unusedSimpArgs false

/-! ### pollardlaw19_MergeChunks: function 3 -/
mutual
def pollardlaw19_MergeChunks.j0 : Nat → List (S32) → List (S33) → Bool → Option (Bool)
 | 0, _, _, _ => none
 | k + 1, x7, x9, x40 => if x40 = true then (none) else (pollardlaw19_MergeChunks.l0 k x7 x9 0)
def pollardlaw19_MergeChunks.l0 : Nat → List (S32) → List (S33) → Int → Option (Bool)
 | 0, _, _, _ => none
 | k + 1, x7, x9, x10 => if x10 < (x9.length : Int) then (if 0 ≤ x10 then (if x10 < (x7.length : Int) then (if ((rd_T32 x7 x10).f0) = ((rd_T33 x9 x10).f0) then ((pollardref19_Same.f k ((rd_T32 x7 x10).f1) ((rd_T33 x9 x10).f1)).bind fun t381 => (if t381 = true then ((pollardref19_Same.f k ((rd_T32 x7 x10).f2) ((rd_T33 x9 x10).f2)).bind fun t384 => (if t384 = true then ((pollardref19_Same.f k ((rd_T32 x7 x10).f3) ((rd_T33 x9 x10).f3)).bind fun t387 => (if t387 = true then (pollardlaw19_MergeChunks.l0 k x7 x9 (wrap64 (x10 + 1))) else (none))) else (none))) else (none))) else (none)) else (none)) else (none)) else (some true)
end
def pollardlaw19_MergeChunks.f (k : Nat) (l0 : List ByteArray) (l1 : List ByteArray) (l2 : List ByteArray) : Option (Bool) := (pollardlaw18_Cut.f l0).bind fun t351 => ((pollardlaw18_Cut.f l1).bind fun t354 => ((pollardlaw18_Cut.f l2).bind fun t357 => ((merge_Chunks.f k t351 t354 t357).bind fun bt360 => ((pollardlaw18_Cut.f l0).bind fun t364 => ((pollardlaw18_Cut.f l1).bind fun t367 => ((pollardlaw18_Cut.f l2).bind fun t370 => ((pollardref19_Chunks.f k t364 t367 t370).bind fun t373 => ((pollardlaw19_awake.f k).bind fun t376 => (if t376 = true then (if bt360.2 = 0 then (pollardlaw19_MergeChunks.j0 k bt360.1 t373 ((bt360.1.length : Int) != (t373.length : Int))) else (pollardlaw19_MergeChunks.j0 k bt360.1 t373 true)) else (pollardlaw19_MergeChunks.j0 k bt360.1 t373 true))))))))))
theorem pollardlaw19_MergeChunks.mono_l : ∀ k, (∀ y0 y1 y2, LeO (pollardlaw19_MergeChunks.j0 k y0 y1 y2) (pollardlaw19_MergeChunks.j0 (k + 1) y0 y1 y2)) ∧ (∀ y0 y1 y2, LeO (pollardlaw19_MergeChunks.l0 k y0 y1 y2) (pollardlaw19_MergeChunks.l0 (k + 1) y0 y1 y2))
 | 0 => ⟨fun _ _ _ r h => by simp [pollardlaw19_MergeChunks.j0] at h, fun _ _ _ r h => by simp [pollardlaw19_MergeChunks.l0] at h⟩
 | k + 1 => by
  obtain ⟨ih0, ih1⟩ := pollardlaw19_MergeChunks.mono_l k
  refine ⟨?_, ?_⟩
  ·
   intro y0 y1 y2
   unfold pollardlaw19_MergeChunks.j0
   repeat' first
   | (with_reducible exact ih0 _ _ _)
   | (with_reducible exact ih1 _ _ _)
   | (with_reducible exact merge_Chunks.mono _ _ _ _)
   | (with_reducible exact pollardlaw19_awake.mono _)
   | (with_reducible exact pollardref19_Chunks.mono _ _ _ _)
   | (with_reducible exact pollardref19_Same.mono _ _ _)
   | (with_reducible exact LeO.refl _)
   | (with_reducible exact LeO.none _)
   | (with_reducible refine LeO.ite ?_ ?_)
   | (with_reducible refine LeO.bind ?_ (fun _ => ?_))
   | exact ih0 _ _ _
   | exact ih1 _ _ _
   | exact merge_Chunks.mono _ _ _ _
   | exact pollardlaw19_awake.mono _
   | exact pollardref19_Chunks.mono _ _ _ _
   | exact pollardref19_Same.mono _ _ _
   | exact LeO.none _
   | refine LeO.ite ?_ ?_
   | refine LeO.bind ?_ (fun _ => ?_)
  ·
   intro y0 y1 y2
   unfold pollardlaw19_MergeChunks.l0
   repeat' first
   | (with_reducible exact ih0 _ _ _)
   | (with_reducible exact ih1 _ _ _)
   | (with_reducible exact merge_Chunks.mono _ _ _ _)
   | (with_reducible exact pollardlaw19_awake.mono _)
   | (with_reducible exact pollardref19_Chunks.mono _ _ _ _)
   | (with_reducible exact pollardref19_Same.mono _ _ _)
   | (with_reducible exact LeO.refl _)
   | (with_reducible exact LeO.none _)
   | (with_reducible refine LeO.ite ?_ ?_)
   | (with_reducible refine LeO.bind ?_ (fun _ => ?_))
   | exact ih0 _ _ _
   | exact ih1 _ _ _
   | exact merge_Chunks.mono _ _ _ _
   | exact pollardlaw19_awake.mono _
   | exact pollardref19_Chunks.mono _ _ _ _
   | exact pollardref19_Same.mono _ _ _
   | exact LeO.none _
   | refine LeO.ite ?_ ?_
   | refine LeO.bind ?_ (fun _ => ?_)
theorem pollardlaw19_MergeChunks.mono : ∀ a0 a1 a2 k, LeO (pollardlaw19_MergeChunks.f k a0 a1 a2) (pollardlaw19_MergeChunks.f (k + 1) a0 a1 a2) := by
 intro a0 a1 a2 k
 obtain ⟨ih0, ih1⟩ := pollardlaw19_MergeChunks.mono_l k
 unfold pollardlaw19_MergeChunks.f
 repeat' first
  | (with_reducible exact ih0 _ _ _)
  | (with_reducible exact ih1 _ _ _)
  | (with_reducible exact merge_Chunks.mono _ _ _ _)
  | (with_reducible exact pollardlaw19_awake.mono _)
  | (with_reducible exact pollardref19_Chunks.mono _ _ _ _)
  | (with_reducible exact pollardref19_Same.mono _ _ _)
  | (with_reducible exact LeO.refl _)
  | (with_reducible exact LeO.none _)
  | (with_reducible refine LeO.ite ?_ ?_)
  | (with_reducible refine LeO.bind ?_ (fun _ => ?_))
  | exact ih0 _ _ _
  | exact ih1 _ _ _
  | exact merge_Chunks.mono _ _ _ _
  | exact pollardlaw19_awake.mono _
  | exact pollardref19_Chunks.mono _ _ _ _
  | exact pollardref19_Same.mono _ _ _
  | exact LeO.none _
  | refine LeO.ite ?_ ?_
  | refine LeO.bind ?_ (fun _ => ?_)
def pollardlaw19_MergeChunks.T8 : Bool × List (List Nat × List Nat) := (true, [([], []), ([], []), ([0, 1], [0, 1]), ([2], [2]), ([3], [3]), ([], []), ([], []), ([5, 6], [5, 6]), ([7], [7]), ([8], [8]), ([4, 9], [4, 9]), ([10], [10]), ([11], [11]), ([11], [11]), ([12, 13, 11], [11, 12, 13]), ([14, 11], [11, 14]), ([15, 11], [11, 15]), ([11], [11]), ([11], [11]), ([17, 18, 11], [11, 17, 18]), ([19, 11], [11, 19]), ([20, 11], [11, 20]), ([16, 21, 11, 11], [11, 16, 21]), ([22, 11], [11, 22]), ([11, 23], [11, 23]), ([24, 22], [24]), ([25], [25]), ([25], [25]), ([26, 27, 25], [25, 26, 27]), ([28, 25], [25, 28]), ([29, 25], [25, 29]), ([25], [25]), ([25], [25]), ([31, 32, 25], [25, 31, 32]), ([33, 25], [25, 33]), ([34, 25], [25, 34]), ([30, 35, 25, 25], [25, 30, 35]), ([36, 25], [25, 36]), ([25, 37], [25, 37]), ([38, 36], [38]), ([39], [39]), ([39], [39]), ([40, 41, 39], [39, 40, 41]), ([42, 39], [39, 42]), ([43, 39], [39, 43]), ([39], [39]), ([39], [39]), ([45, 46, 39], [39, 45, 46]), ([47, 39], [39, 47]), ([48, 39], [39, 48]), ([44, 49, 39, 39], [39, 44, 49]), ([50, 39], [39, 50]), ([39, 51], [39, 51])])
def pollardlaw19_MergeChunks.B8 : List Nat := [0, 0, 3, 7, 15, 0, 0, 96, 224, 480, 1023, 2047, 4095, 4095, 16383, 32767, 65535, 4095, 4095, 397311, 921599, 1970175, 4194303, 8388607, 16777215, 33554431, 67108863, 67108863, 268435455, 536870911, 1073741823, 67108863, 67108863, 6509559807, 15099494399, 32279363583, 68719476735, 137438953471, 274877906943, 549755813887, 1099511627775, 1099511627775, 4398046511103, 8796093022207, 17592186044415, 1099511627775, 1099511627775, 106652627894271, 247390116249599, 528865092960255, 1125899906842623, 2251799813685247, 4503599627370495]
theorem pollardlaw19_MergeChunks.tab8 : rtab .any (opsOf Tryd.f3 8) = pollardlaw19_MergeChunks.T8 := by kernel_rfl
theorem pollardlaw19_MergeChunks.bits8 : waitsOk pollardlaw19_MergeChunks.T8.2 pollardlaw19_MergeChunks.B8 = true := by kernel_rfl
set_option maxHeartbeats 8000000 in
set_option maxRecDepth 100000 in
theorem pollardlaw19_MergeChunks.calls (k : Nat) (A0 : Option Addr) (c0 : Nat) (l0 : List ByteArray) (A1 : Option Addr) (c1 : Nat) (l1 : List ByteArray) (A2 : Option Addr) (c2 : Nat) (l2 : List ByteArray) (r : Bool) (w : World) (hr0 : Kd.C Kd.string w A0 l0.length l0) (hc0 : l0.length ≤ c0) (hr1 : Kd.C Kd.string w A1 l1.length l1) (hc1 : l1.length ≤ c1) (hr2 : Kd.C Kd.string w A2 l2.length l2) (hc2 : l2.length ≤ c2) (h : pollardlaw19_MergeChunks.f k l0 l1 l2 = some r) :
 Calls Tryd.prog 3 #[.slice A0 l0.length c0, .slice A1 l1.length c1, .slice A2 l2.length c2] w fun e w' => e = .returned (.bool r) ∧ Below w.heap.size w w' := by
 have HR0 := Aside0.mk hr0
 have HC0 := Aside0.mk hc0
 clear hr0 hc0
 have HR1 := Aside0.mk hr1
 have HC1 := Aside0.mk hc1
 clear hr1 hc1
 have HR2 := Aside0.mk hr2
 have HC2 := Aside0.mk hc2
 clear hr2 hc2
 have HB := Aside0.mk (Below.refl w.heap.size w)
 have H : ((pollardlaw18_Cut.f l0).bind fun t351 => ((pollardlaw18_Cut.f l1).bind fun t354 => ((pollardlaw18_Cut.f l2).bind fun t357 => ((merge_Chunks.f k t351 t354 t357).bind fun bt360 => ((pollardlaw18_Cut.f l0).bind fun t364 => ((pollardlaw18_Cut.f l1).bind fun t367 => ((pollardlaw18_Cut.f l2).bind fun t370 => ((pollardref19_Chunks.f k t364 t367 t370).bind fun t373 => ((pollardlaw19_awake.f k).bind fun t376 => (if t376 = true then (if bt360.2 = 0 then (pollardlaw19_MergeChunks.j0 k bt360.1 t373 ((bt360.1.length : Int) != (t373.length : Int))) else (pollardlaw19_MergeChunks.j0 k bt360.1 t373 true)) else (pollardlaw19_MergeChunks.j0 k bt360.1 t373 true))))))))))) = some r := h
 clear h
 replace H := Option.bind_eq_some_iff.mp H
 obtain ⟨t351, A40, H⟩ := H
 replace H : ((pollardlaw18_Cut.f l1).bind fun t354 => ((pollardlaw18_Cut.f l2).bind fun t357 => ((merge_Chunks.f k t351 t354 t357).bind fun bt360 => ((pollardlaw18_Cut.f l0).bind fun t364 => ((pollardlaw18_Cut.f l1).bind fun t367 => ((pollardlaw18_Cut.f l2).bind fun t370 => ((pollardref19_Chunks.f k t364 t367 t370).bind fun t373 => ((pollardlaw19_awake.f k).bind fun t376 => (if t376 = true then (if bt360.2 = 0 then (pollardlaw19_MergeChunks.j0 k bt360.1 t373 ((bt360.1.length : Int) != (t373.length : Int))) else (pollardlaw19_MergeChunks.j0 k bt360.1 t373 true)) else (pollardlaw19_MergeChunks.j0 k bt360.1 t373 true)))))))))) = some r := H
 have A4 := Aside0.mk A40
 clear A40
 replace H := Option.bind_eq_some_iff.mp H
 obtain ⟨t354, A50, H⟩ := H
 replace H : ((pollardlaw18_Cut.f l2).bind fun t357 => ((merge_Chunks.f k t351 t354 t357).bind fun bt360 => ((pollardlaw18_Cut.f l0).bind fun t364 => ((pollardlaw18_Cut.f l1).bind fun t367 => ((pollardlaw18_Cut.f l2).bind fun t370 => ((pollardref19_Chunks.f k t364 t367 t370).bind fun t373 => ((pollardlaw19_awake.f k).bind fun t376 => (if t376 = true then (if bt360.2 = 0 then (pollardlaw19_MergeChunks.j0 k bt360.1 t373 ((bt360.1.length : Int) != (t373.length : Int))) else (pollardlaw19_MergeChunks.j0 k bt360.1 t373 true)) else (pollardlaw19_MergeChunks.j0 k bt360.1 t373 true))))))))) = some r := H
 have A5 := Aside0.mk A50
 clear A50
 replace H := Option.bind_eq_some_iff.mp H
 obtain ⟨t357, A60, H⟩ := H
 replace H : ((merge_Chunks.f k t351 t354 t357).bind fun bt360 => ((pollardlaw18_Cut.f l0).bind fun t364 => ((pollardlaw18_Cut.f l1).bind fun t367 => ((pollardlaw18_Cut.f l2).bind fun t370 => ((pollardref19_Chunks.f k t364 t367 t370).bind fun t373 => ((pollardlaw19_awake.f k).bind fun t376 => (if t376 = true then (if bt360.2 = 0 then (pollardlaw19_MergeChunks.j0 k bt360.1 t373 ((bt360.1.length : Int) != (t373.length : Int))) else (pollardlaw19_MergeChunks.j0 k bt360.1 t373 true)) else (pollardlaw19_MergeChunks.j0 k bt360.1 t373 true)))))))) = some r := H
 have A6 := Aside0.mk A60
 clear A60
 replace H := Option.bind_eq_some_iff.mp H
 obtain ⟨⟨t360, t361⟩, A70, H⟩ := H
 replace H : ((pollardlaw18_Cut.f l0).bind fun t364 => ((pollardlaw18_Cut.f l1).bind fun t367 => ((pollardlaw18_Cut.f l2).bind fun t370 => ((pollardref19_Chunks.f k t364 t367 t370).bind fun t373 => ((pollardlaw19_awake.f k).bind fun t376 => (if t376 = true then (if t361 = 0 then (pollardlaw19_MergeChunks.j0 k t360 t373 ((t360.length : Int) != (t373.length : Int))) else (pollardlaw19_MergeChunks.j0 k t360 t373 true)) else (pollardlaw19_MergeChunks.j0 k t360 t373 true))))))) = some r := H
 have A7 := Aside0.mk A70
 clear A70
 replace H := Option.bind_eq_some_iff.mp H
 obtain ⟨t364, A80, H⟩ := H
 replace H : ((pollardlaw18_Cut.f l1).bind fun t367 => ((pollardlaw18_Cut.f l2).bind fun t370 => ((pollardref19_Chunks.f k t364 t367 t370).bind fun t373 => ((pollardlaw19_awake.f k).bind fun t376 => (if t376 = true then (if t361 = 0 then (pollardlaw19_MergeChunks.j0 k t360 t373 ((t360.length : Int) != (t373.length : Int))) else (pollardlaw19_MergeChunks.j0 k t360 t373 true)) else (pollardlaw19_MergeChunks.j0 k t360 t373 true)))))) = some r := H
 have A8 := Aside0.mk A80
 clear A80
 replace H := Option.bind_eq_some_iff.mp H
 obtain ⟨t367, A90, H⟩ := H
 replace H : ((pollardlaw18_Cut.f l2).bind fun t370 => ((pollardref19_Chunks.f k t364 t367 t370).bind fun t373 => ((pollardlaw19_awake.f k).bind fun t376 => (if t376 = true then (if t361 = 0 then (pollardlaw19_MergeChunks.j0 k t360 t373 ((t360.length : Int) != (t373.length : Int))) else (pollardlaw19_MergeChunks.j0 k t360 t373 true)) else (pollardlaw19_MergeChunks.j0 k t360 t373 true))))) = some r := H
 have A9 := Aside0.mk A90
 clear A90
 replace H := Option.bind_eq_some_iff.mp H
 obtain ⟨t370, A100, H⟩ := H
 replace H : ((pollardref19_Chunks.f k t364 t367 t370).bind fun t373 => ((pollardlaw19_awake.f k).bind fun t376 => (if t376 = true then (if t361 = 0 then (pollardlaw19_MergeChunks.j0 k t360 t373 ((t360.length : Int) != (t373.length : Int))) else (pollardlaw19_MergeChunks.j0 k t360 t373 true)) else (pollardlaw19_MergeChunks.j0 k t360 t373 true)))) = some r := H
 have A10 := Aside0.mk A100
 clear A100
 replace H := Option.bind_eq_some_iff.mp H
 obtain ⟨t373, A110, H⟩ := H
 replace H : ((pollardlaw19_awake.f k).bind fun t376 => (if t376 = true then (if t361 = 0 then (pollardlaw19_MergeChunks.j0 k t360 t373 ((t360.length : Int) != (t373.length : Int))) else (pollardlaw19_MergeChunks.j0 k t360 t373 true)) else (pollardlaw19_MergeChunks.j0 k t360 t373 true))) = some r := H
 have A11 := Aside0.mk A110
 clear A110
 have HC12 := Aside0.mk H
 clear H
 go_enter Tryd.func3, Tryd.ntmps3
 go_upto_region 3 with (first | ((with_reducible refine gate_callee (f := 10) rfl ?_); refine goesL_ (some 13) rfl rfl Tryd.func10 (by kernel_rfl) rfl #[.slice A0 l0.length c0] rfl (by (try simp only [List.map_toArray, List.map_cons, List.map_nil]); first | done | rfl | (simp only [List.length_drop, List.length_take]; rfl)) ?_; (with_reducible refine (pollardlaw18_Cut.calls (fun k_ => k_ < w.heap.size) _ _ l0 t351 _ ?side1 A4.out).mono ?_); (case side1 => exact Kd.V_mk HC0.out (Kd.F_below (Kd.C_F Kd.heap_string HR0.out) (by repeat (first | (with_reducible first | exact HB.out | apply below_alloc | apply pw_below_drewN | apply below_drew1) | exact HB.out)))); rintro e w13 ⟨v352, rfl, ho0, hb⟩; refine ⟨_, rfl, ?_⟩; have n0_ := Aside0.mk (Kd.V_lower (Kd.V_mono (ok' := fun k_ => True) ho0 (fun k_ hk_ => trivial)) (below_size (by repeat (first | (with_reducible first | exact HB.out | apply below_alloc | apply pw_below_drewN | apply below_drew1) | exact HB.out)))); have n1_ := Aside0.mk (below_step (by repeat (first | (with_reducible first | exact HB.out | apply below_alloc | apply pw_below_drewN | apply below_drew1) | exact HB.out)) hb); clear HB; have HO353 := n0_; have HB := n1_; clear n0_ n1_; (try clear hb); (try clear hb2); (try clear hk); (try clear hi); (try clear ho0)) | ((with_reducible refine gate_callee (f := 10) rfl ?_); refine goesL_ (some 15) rfl rfl Tryd.func10 (by kernel_rfl) rfl #[.slice A1 l1.length c1] rfl (by (try simp only [List.map_toArray, List.map_cons, List.map_nil]); first | done | rfl | (simp only [List.length_drop, List.length_take]; rfl)) ?_; (with_reducible refine (pollardlaw18_Cut.calls (fun k_ => k_ < w.heap.size) _ _ l1 t354 _ ?side1 A5.out).mono ?_); (case side1 => exact Kd.V_mk HC1.out (Kd.F_below (Kd.C_F Kd.heap_string HR1.out) (by repeat (first | (with_reducible first | exact HB.out | apply below_alloc | apply pw_below_drewN | apply below_drew1) | exact HB.out)))); rintro e w14 ⟨v355, rfl, ho0, hb⟩; refine ⟨_, rfl, ?_⟩; have n0_ := Aside0.mk (Kd.V_below (by (with_reducible repeat (first | apply Kd.V_alloc | apply Kd.V_drewN | apply Kd.V_drew)); exact HO353.out) hb); have n1_ := Aside0.mk (Kd.V_lower (Kd.V_mono (ok' := fun k_ => True) ho0 (fun k_ hk_ => trivial)) (below_size (by repeat (first | (with_reducible first | exact HB.out | apply below_alloc | apply pw_below_drewN | apply below_drew1) | exact HB.out)))); have n2_ := Aside0.mk (below_step (by repeat (first | (with_reducible first | exact HB.out | apply below_alloc | apply pw_below_drewN | apply below_drew1) | exact HB.out)) hb); clear HO353; clear HB; have HO353 := n0_; have HO356 := n1_; have HB := n2_; clear n0_ n1_ n2_; (try clear hb); (try clear hb2); (try clear hk); (try clear hi); (try clear ho0)) | ((with_reducible refine gate_callee (f := 10) rfl ?_); refine goesL_ (some 17) rfl rfl Tryd.func10 (by kernel_rfl) rfl #[.slice A2 l2.length c2] rfl (by (try simp only [List.map_toArray, List.map_cons, List.map_nil]); first | done | rfl | (simp only [List.length_drop, List.length_take]; rfl)) ?_; (with_reducible refine (pollardlaw18_Cut.calls (fun k_ => k_ < w.heap.size) _ _ l2 t357 _ ?side1 A6.out).mono ?_); (case side1 => exact Kd.V_mk HC2.out (Kd.F_below (Kd.C_F Kd.heap_string HR2.out) (by repeat (first | (with_reducible first | exact HB.out | apply below_alloc | apply pw_below_drewN | apply below_drew1) | exact HB.out)))); rintro e w15 ⟨v358, rfl, ho0, hb⟩; refine ⟨_, rfl, ?_⟩; have n0_ := Aside0.mk (Kd.V_below (by (with_reducible repeat (first | apply Kd.V_alloc | apply Kd.V_drewN | apply Kd.V_drew)); exact HO353.out) hb); have n1_ := Aside0.mk (Kd.V_below (by (with_reducible repeat (first | apply Kd.V_alloc | apply Kd.V_drewN | apply Kd.V_drew)); exact HO356.out) hb); have n2_ := Aside0.mk (Kd.V_lower (Kd.V_mono (ok' := fun k_ => True) ho0 (fun k_ hk_ => trivial)) (below_size (by repeat (first | (with_reducible first | exact HB.out | apply below_alloc | apply pw_below_drewN | apply below_drew1) | exact HB.out)))); have n3_ := Aside0.mk (below_step (by repeat (first | (with_reducible first | exact HB.out | apply below_alloc | apply pw_below_drewN | apply below_drew1) | exact HB.out)) hb); clear HO353; clear HO356; clear HB; have HO353 := n0_; have HO356 := n1_; have HO359 := n2_; have HB := n3_; clear n0_ n1_ n2_ n3_; (try clear hb); (try clear hb2); (try clear hk); (try clear hi); (try clear ho0); obtain ⟨Ao16, co16, eo16⟩ := Kd.V_slice HO353.out; subst eo16; obtain ⟨Ao17, co17, eo17⟩ := Kd.V_slice HO356.out; subst eo17; obtain ⟨Ao18, co18, eo18⟩ := Kd.V_slice HO359.out; subst eo18) | ((with_reducible refine gate_callee (f := 9) rfl ?_); refine goesL_ (some 18) rfl rfl Tryd.func9 (by kernel_rfl) rfl #[.slice Ao16 t351.length co16, .slice Ao17 t354.length co17, .slice Ao18 t357.length co18] rfl (by (try simp only [List.map_toArray, List.map_cons, List.map_nil]); first | done | rfl | (simp only [List.length_drop, List.length_take]; rfl)) ?_; (with_reducible refine (merge_Chunks.calls k _ _ t351 _ _ t354 _ _ t357 t360 t361 _ ?side1 ?side2 ?side3 ?side4 ?side5 ?side6 A7.out).mono ?_); (case side1 => repeat (first | exact (Kd.V_reads' HO353.out).2.2 | (with_reducible refine Kd.C_alloc ?_ _) | (with_reducible refine Kd.C_drewN ?_ _) | (with_reducible refine Kd.C_drew ?_))); (case side2 => exact (Kd.V_reads' HO353.out).2.1); (case side3 => repeat (first | exact (Kd.V_reads' HO356.out).2.2 | (with_reducible refine Kd.C_alloc ?_ _) | (with_reducible refine Kd.C_drewN ?_ _) | (with_reducible refine Kd.C_drew ?_))); (case side4 => exact (Kd.V_reads' HO356.out).2.1); (case side5 => repeat (first | exact (Kd.V_reads' HO359.out).2.2 | (with_reducible refine Kd.C_alloc ?_ _) | (with_reducible refine Kd.C_drewN ?_ _) | (with_reducible refine Kd.C_drew ?_))); (case side6 => exact (Kd.V_reads' HO359.out).2.1); rintro e w19 ⟨v362, rfl, ho0, hb⟩; refine ⟨_, rfl, ?_⟩; have n0_ := Aside0.mk (Kd.V_elder' (by (with_reducible repeat (first | apply Kd.V_alloc | apply Kd.V_drewN | apply Kd.V_drew)); exact HO353.out) (Kd.R_base (Kd.S_R ho0)) hb); have n1_ := Aside0.mk (Kd.V_elder' (by (with_reducible repeat (first | apply Kd.V_alloc | apply Kd.V_drewN | apply Kd.V_drew)); exact HO356.out) (Kd.R_base (Kd.S_R ho0)) hb); have n2_ := Aside0.mk (Kd.V_elder' (by (with_reducible repeat (first | apply Kd.V_alloc | apply Kd.V_drewN | apply Kd.V_drew)); exact HO359.out) (Kd.R_base (Kd.S_R ho0)) hb); have n3_ := Aside0.mk (Kd.N_lower (Kd.N_mono (ok' := fun k_ => True) (Kd.S_N (Kd.S_bound ho0)) (fun k_ hk_ => trivial)) (below_size (by repeat (first | (with_reducible first | exact HB.out | apply below_alloc | apply pw_below_drewN | apply below_drew1) | exact HB.out)))); have n4_ := Aside0.mk (below_step (by repeat (first | (with_reducible first | exact HB.out | apply below_alloc | apply pw_below_drewN | apply below_drew1) | exact HB.out)) hb); clear HO353; clear HO356; clear HO359; clear HB; have HO353 := n0_; have HO356 := n1_; have HO359 := n2_; have HO363 := n3_; have HB := n4_; clear n0_ n1_ n2_ n3_ n4_; (try clear hb); (try clear hb2); (try clear hk); (try clear hi); (try clear ho0)) | ((with_reducible refine gate_callee (f := 10) rfl ?_); refine goesL_ (some 22) rfl rfl Tryd.func10 (by kernel_rfl) rfl #[.slice A0 l0.length c0] rfl (by (try simp only [List.map_toArray, List.map_cons, List.map_nil]); first | done | rfl | (simp only [List.length_drop, List.length_take]; rfl)) ?_; (with_reducible refine (pollardlaw18_Cut.calls (fun k_ => k_ < w.heap.size) _ _ l0 t364 _ ?side1 A8.out).mono ?_); (case side1 => exact Kd.V_mk HC0.out (Kd.F_below (Kd.C_F Kd.heap_string HR0.out) (by repeat (first | (with_reducible first | exact HB.out | apply below_alloc | apply pw_below_drewN | apply below_drew1) | exact HB.out)))); rintro e w20 ⟨v365, rfl, ho0, hb⟩; refine ⟨_, rfl, ?_⟩; have n0_ := Aside0.mk (Kd.V_below (by (with_reducible repeat (first | apply Kd.V_alloc | apply Kd.V_drewN | apply Kd.V_drew)); exact HO353.out) hb); have n1_ := Aside0.mk (Kd.V_below (by (with_reducible repeat (first | apply Kd.V_alloc | apply Kd.V_drewN | apply Kd.V_drew)); exact HO356.out) hb); have n2_ := Aside0.mk (Kd.V_below (by (with_reducible repeat (first | apply Kd.V_alloc | apply Kd.V_drewN | apply Kd.V_drew)); exact HO359.out) hb); have n3_ := Aside0.mk (Kd.N_below (by (with_reducible repeat (first | apply Kd.N_alloc | apply Kd.N_drewN | apply Kd.N_drew)); exact HO363.out) hb); have n4_ := Aside0.mk (Kd.V_lower (Kd.V_mono (ok' := fun k_ => some k_ ≠ (v362 : Value).ownBlock) ho0 (fun k_ hk_ => Or.elim hk_ (fun hs_ => fun e_ => Nat.not_le.2 hs_ (Kd.N_base HO363.out k_ e_.symm)) (fun hn_ => (Kd.fresh' (Kd.N_lt (by (with_reducible repeat (first | apply Kd.N_alloc | apply Kd.N_drewN | apply Kd.N_drew)); exact HO363.out)) k_ hn_)))) (below_size (by repeat (first | (with_reducible first | exact HB.out | apply below_alloc | apply pw_below_drewN | apply below_drew1) | exact HB.out)))); have n5_ := Aside0.mk (below_step (by repeat (first | (with_reducible first | exact HB.out | apply below_alloc | apply pw_below_drewN | apply below_drew1) | exact HB.out)) hb); clear HO353; clear HO356; clear HO359; clear HO363; clear HB; have HO353 := n0_; have HO356 := n1_; have HO359 := n2_; have HO363 := n3_; have HO366 := n4_; have HB := n5_; clear n0_ n1_ n2_ n3_ n4_ n5_; (try clear hb); (try clear hb2); (try clear hk); (try clear hi); (try clear ho0)) | ((with_reducible refine gate_callee (f := 10) rfl ?_); refine goesL_ (some 24) rfl rfl Tryd.func10 (by kernel_rfl) rfl #[.slice A1 l1.length c1] rfl (by (try simp only [List.map_toArray, List.map_cons, List.map_nil]); first | done | rfl | (simp only [List.length_drop, List.length_take]; rfl)) ?_; (with_reducible refine (pollardlaw18_Cut.calls (fun k_ => k_ < w.heap.size) _ _ l1 t367 _ ?side1 A9.out).mono ?_); (case side1 => exact Kd.V_mk HC1.out (Kd.F_below (Kd.C_F Kd.heap_string HR1.out) (by repeat (first | (with_reducible first | exact HB.out | apply below_alloc | apply pw_below_drewN | apply below_drew1) | exact HB.out)))); rintro e w21 ⟨v368, rfl, ho0, hb⟩; refine ⟨_, rfl, ?_⟩; have n0_ := Aside0.mk (Kd.V_below (by (with_reducible repeat (first | apply Kd.V_alloc | apply Kd.V_drewN | apply Kd.V_drew)); exact HO353.out) hb); have n1_ := Aside0.mk (Kd.V_below (by (with_reducible repeat (first | apply Kd.V_alloc | apply Kd.V_drewN | apply Kd.V_drew)); exact HO356.out) hb); have n2_ := Aside0.mk (Kd.V_below (by (with_reducible repeat (first | apply Kd.V_alloc | apply Kd.V_drewN | apply Kd.V_drew)); exact HO359.out) hb); have n3_ := Aside0.mk (Kd.N_below (by (with_reducible repeat (first | apply Kd.N_alloc | apply Kd.N_drewN | apply Kd.N_drew)); exact HO363.out) hb); have n4_ := Aside0.mk (Kd.V_below (by (with_reducible repeat (first | apply Kd.V_alloc | apply Kd.V_drewN | apply Kd.V_drew)); exact HO366.out) hb); have n5_ := Aside0.mk (Kd.V_lower (Kd.V_mono (ok' := fun k_ => some k_ ≠ (v362 : Value).ownBlock) ho0 (fun k_ hk_ => Or.elim hk_ (fun hs_ => fun e_ => Nat.not_le.2 hs_ (Kd.N_base HO363.out k_ e_.symm)) (fun hn_ => (Kd.fresh' (Kd.N_lt (by (with_reducible repeat (first | apply Kd.N_alloc | apply Kd.N_drewN | apply Kd.N_drew)); exact HO363.out)) k_ hn_)))) (below_size (by repeat (first | (with_reducible first | exact HB.out | apply below_alloc | apply pw_below_drewN | apply below_drew1) | exact HB.out)))); have n6_ := Aside0.mk (below_step (by repeat (first | (with_reducible first | exact HB.out | apply below_alloc | apply pw_below_drewN | apply below_drew1) | exact HB.out)) hb); clear HO353; clear HO356; clear HO359; clear HO363; clear HO366; clear HB; have HO353 := n0_; have HO356 := n1_; have HO359 := n2_; have HO363 := n3_; have HO366 := n4_; have HO369 := n5_; have HB := n6_; clear n0_ n1_ n2_ n3_ n4_ n5_ n6_; (try clear hb); (try clear hb2); (try clear hk); (try clear hi); (try clear ho0)) | ((with_reducible refine gate_callee (f := 10) rfl ?_); refine goesL_ (some 26) rfl rfl Tryd.func10 (by kernel_rfl) rfl #[.slice A2 l2.length c2] rfl (by (try simp only [List.map_toArray, List.map_cons, List.map_nil]); first | done | rfl | (simp only [List.length_drop, List.length_take]; rfl)) ?_; (with_reducible refine (pollardlaw18_Cut.calls (fun k_ => k_ < w.heap.size) _ _ l2 t370 _ ?side1 A10.out).mono ?_); (case side1 => exact Kd.V_mk HC2.out (Kd.F_below (Kd.C_F Kd.heap_string HR2.out) (by repeat (first | (with_reducible first | exact HB.out | apply below_alloc | apply pw_below_drewN | apply below_drew1) | exact HB.out)))); rintro e w22 ⟨v371, rfl, ho0, hb⟩; refine ⟨_, rfl, ?_⟩; have n0_ := Aside0.mk (Kd.V_below (by (with_reducible repeat (first | apply Kd.V_alloc | apply Kd.V_drewN | apply Kd.V_drew)); exact HO353.out) hb); have n1_ := Aside0.mk (Kd.V_below (by (with_reducible repeat (first | apply Kd.V_alloc | apply Kd.V_drewN | apply Kd.V_drew)); exact HO356.out) hb); have n2_ := Aside0.mk (Kd.V_below (by (with_reducible repeat (first | apply Kd.V_alloc | apply Kd.V_drewN | apply Kd.V_drew)); exact HO359.out) hb); have n3_ := Aside0.mk (Kd.N_below (by (with_reducible repeat (first | apply Kd.N_alloc | apply Kd.N_drewN | apply Kd.N_drew)); exact HO363.out) hb); have n4_ := Aside0.mk (Kd.V_below (by (with_reducible repeat (first | apply Kd.V_alloc | apply Kd.V_drewN | apply Kd.V_drew)); exact HO366.out) hb); have n5_ := Aside0.mk (Kd.V_below (by (with_reducible repeat (first | apply Kd.V_alloc | apply Kd.V_drewN | apply Kd.V_drew)); exact HO369.out) hb); have n6_ := Aside0.mk (Kd.V_lower (Kd.V_mono (ok' := fun k_ => some k_ ≠ (v362 : Value).ownBlock) ho0 (fun k_ hk_ => Or.elim hk_ (fun hs_ => fun e_ => Nat.not_le.2 hs_ (Kd.N_base HO363.out k_ e_.symm)) (fun hn_ => (Kd.fresh' (Kd.N_lt (by (with_reducible repeat (first | apply Kd.N_alloc | apply Kd.N_drewN | apply Kd.N_drew)); exact HO363.out)) k_ hn_)))) (below_size (by repeat (first | (with_reducible first | exact HB.out | apply below_alloc | apply pw_below_drewN | apply below_drew1) | exact HB.out)))); have n7_ := Aside0.mk (below_step (by repeat (first | (with_reducible first | exact HB.out | apply below_alloc | apply pw_below_drewN | apply below_drew1) | exact HB.out)) hb); clear HO353; clear HO356; clear HO359; clear HO363; clear HO366; clear HO369; clear HB; have HO353 := n0_; have HO356 := n1_; have HO359 := n2_; have HO363 := n3_; have HO366 := n4_; have HO369 := n5_; have HO372 := n6_; have HB := n7_; clear n0_ n1_ n2_ n3_ n4_ n5_ n6_ n7_; (try clear hb); (try clear hb2); (try clear hk); (try clear hi); (try clear ho0); obtain ⟨Ao23, co23, eo23⟩ := Kd.V_slice HO366.out; subst eo23; obtain ⟨Ao24, co24, eo24⟩ := Kd.V_slice HO369.out; subst eo24; obtain ⟨Ao25, co25, eo25⟩ := Kd.V_slice HO372.out; subst eo25) | ((with_reducible refine gate_callee (f := 11) rfl ?_); refine goesL_ (some 27) rfl rfl Tryd.func11 (by kernel_rfl) rfl #[.slice Ao23 t364.length co23, .slice Ao24 t367.length co24, .slice Ao25 t370.length co25] rfl (by (try simp only [List.map_toArray, List.map_cons, List.map_nil]); first | done | rfl | (simp only [List.length_drop, List.length_take]; rfl)) ?_; (with_reducible refine (pollardref19_Chunks.calls k (fun k_ => some k_ ≠ (v362 : Value).ownBlock) _ _ t364 (fun k_ => some k_ ≠ (v362 : Value).ownBlock) _ _ t367 (fun k_ => some k_ ≠ (v362 : Value).ownBlock) _ _ t370 t373 _ ?side1 ?side2 ?side3 A11.out).mono ?_); (case side1 => exact HO366.out); (case side2 => exact HO369.out); (case side3 => exact HO372.out); rintro e w26 ⟨v374, rfl, ho0, hb⟩; refine ⟨_, rfl, ?_⟩; have n0_ := Aside0.mk (Kd.V_elder' (by (with_reducible repeat (first | apply Kd.V_alloc | apply Kd.V_drewN | apply Kd.V_drew)); exact HO353.out) (Kd.N_base ho0) hb); have n1_ := Aside0.mk (Kd.V_elder' (by (with_reducible repeat (first | apply Kd.V_alloc | apply Kd.V_drewN | apply Kd.V_drew)); exact HO356.out) (Kd.N_base ho0) hb); have n2_ := Aside0.mk (Kd.V_elder' (by (with_reducible repeat (first | apply Kd.V_alloc | apply Kd.V_drewN | apply Kd.V_drew)); exact HO359.out) (Kd.N_base ho0) hb); have n3_ := Aside0.mk (Kd.N_elder' (by (with_reducible repeat (first | apply Kd.N_alloc | apply Kd.N_drewN | apply Kd.N_drew)); exact HO363.out) (Kd.N_base ho0) hb); have n4_ := Aside0.mk (Kd.V_elder' (by (with_reducible repeat (first | apply Kd.V_alloc | apply Kd.V_drewN | apply Kd.V_drew)); exact HO366.out) (Kd.N_base ho0) hb); have n5_ := Aside0.mk (Kd.V_elder' (by (with_reducible repeat (first | apply Kd.V_alloc | apply Kd.V_drewN | apply Kd.V_drew)); exact HO369.out) (Kd.N_base ho0) hb); have n6_ := Aside0.mk (Kd.V_elder' (by (with_reducible repeat (first | apply Kd.V_alloc | apply Kd.V_drewN | apply Kd.V_drew)); exact HO372.out) (Kd.N_base ho0) hb); have n7_ := Aside0.mk (Kd.N_lower (Kd.N_mono (ok' := fun k_ => some k_ ≠ (v362 : Value).ownBlock) ho0 (fun k_ hk_ => Or.elim hk_ (fun hs_ => Or.elim hs_ (fun hs_ => hs_) (fun hs_ => Or.elim hs_ (fun hs_ => hs_) (fun hs_ => hs_))) (fun hn_ => (Kd.fresh' (Kd.N_lt (by (with_reducible repeat (first | apply Kd.N_alloc | apply Kd.N_drewN | apply Kd.N_drew)); exact HO363.out)) k_ hn_)))) (below_size (by repeat (first | (with_reducible first | exact HB.out | apply below_alloc | apply pw_below_drewN | apply below_drew1) | exact HB.out)))); have n8_ := Aside0.mk (below_step (by repeat (first | (with_reducible first | exact HB.out | apply below_alloc | apply pw_below_drewN | apply below_drew1) | exact HB.out)) hb); clear HO353; clear HO356; clear HO359; clear HO363; clear HO366; clear HO369; clear HO372; clear HB; have HO353 := n0_; have HO356 := n1_; have HO359 := n2_; have HO363 := n3_; have HO366 := n4_; have HO369 := n5_; have HO372 := n6_; have HO375 := n7_; have HB := n8_; clear n0_ n1_ n2_ n3_ n4_ n5_ n6_ n7_ n8_; (try clear hb); (try clear hb2); (try clear hk); (try clear hi); (try clear ho0)))
 (try simp only [Act.put, List.setIfInBounds_toArray, List.set_cons_zero, List.set_cons_succ])
 go_cut [40] (fun v40 wc => ∃ (kq : Nat) (x40_11 : Bool), v40 = .bool x40_11 ∧ Aside0 (pollardlaw19_MergeChunks.j0 kq t360 t373 x40_11 = some r) ∧ Aside0 (kq ≤ k) ∧ Aside0 (Kd.N k32 32 wc w.heap.size (fun k_ => some k_ ≠ (v374 : Value).ownBlock) v362 t360) ∧ Aside0 (Kd.N k33 33 wc w.heap.size (fun k_ => some k_ ≠ (v362 : Value).ownBlock) v374 t373) ∧ Aside0 (Below w.heap.size w wc))
 case first =>
  have H := HC12.out
  clear HC12
  replace H := Option.bind_eq_some_iff.mp H
  obtain ⟨t376, A270, H⟩ := H
  replace H : (if t376 = true then (if t361 = 0 then (pollardlaw19_MergeChunks.j0 k t360 t373 ((t360.length : Int) != (t373.length : Int))) else (pollardlaw19_MergeChunks.j0 k t360 t373 true)) else (pollardlaw19_MergeChunks.j0 k t360 t373 true)) = some r := H
  have A27 := Aside0.mk A270
  clear A270
  by_cases c28 : t376 = true
  ·
   subst c28
   have H1 : (if t361 = 0 then (pollardlaw19_MergeChunks.j0 k t360 t373 ((t360.length : Int) != (t373.length : Int))) else (pollardlaw19_MergeChunks.j0 k t360 t373 true)) = some r := by rw [if_pos rfl] at H; exact H
   clear H
   have H := H1
   clear H1
   by_cases c29 : t361 = 0
   · rw [if_pos c29] at H
     have c29b0 : (t361 == 0) = true := beq_iff_eq.mpr c29
     have c29b1 : (t361 != 0) = false := bne_eq_false_iff_eq.mpr c29
     clear c29
     (first | rw [c29b0] | (simp only [i64_w, i32_w]; rw [c29b0]) | skip)
     have H' := Aside0.mk H
     clear H
     go_wp2_with (first | ((with_reducible refine gate_callee (f := 12) rfl ?_); refine goesL_ (some 28) rfl rfl Tryd.func12 (by kernel_rfl) rfl #[] rfl (by (try simp only [List.map_toArray, List.map_cons, List.map_nil]); first | done | rfl | (simp only [List.length_drop, List.length_take]; rfl)) ?_; (with_reducible refine (pollardlaw19_awake.calls k  true _ A27.out).mono ?_); rintro e w30 ⟨rfl, hb⟩; refine ⟨_, rfl, ?_⟩; have n0_ := Aside0.mk (Kd.V_below (by (with_reducible repeat (first | apply Kd.V_alloc | apply Kd.V_drewN | apply Kd.V_drew)); exact HO353.out) hb); have n1_ := Aside0.mk (Kd.V_below (by (with_reducible repeat (first | apply Kd.V_alloc | apply Kd.V_drewN | apply Kd.V_drew)); exact HO356.out) hb); have n2_ := Aside0.mk (Kd.V_below (by (with_reducible repeat (first | apply Kd.V_alloc | apply Kd.V_drewN | apply Kd.V_drew)); exact HO359.out) hb); have n3_ := Aside0.mk (Kd.N_below (by (with_reducible repeat (first | apply Kd.N_alloc | apply Kd.N_drewN | apply Kd.N_drew)); exact HO363.out) hb); have n4_ := Aside0.mk (Kd.V_below (by (with_reducible repeat (first | apply Kd.V_alloc | apply Kd.V_drewN | apply Kd.V_drew)); exact HO366.out) hb); have n5_ := Aside0.mk (Kd.V_below (by (with_reducible repeat (first | apply Kd.V_alloc | apply Kd.V_drewN | apply Kd.V_drew)); exact HO369.out) hb); have n6_ := Aside0.mk (Kd.V_below (by (with_reducible repeat (first | apply Kd.V_alloc | apply Kd.V_drewN | apply Kd.V_drew)); exact HO372.out) hb); have n7_ := Aside0.mk (Kd.N_below (by (with_reducible repeat (first | apply Kd.N_alloc | apply Kd.N_drewN | apply Kd.N_drew)); exact HO375.out) hb); have n8_ := Aside0.mk (below_step (by repeat (first | (with_reducible first | exact HB.out | apply below_alloc | apply pw_below_drewN | apply below_drew1) | exact HB.out)) hb); clear HO353; clear HO356; clear HO359; clear HO363; clear HO366; clear HO369; clear HO372; clear HO375; clear HB; have HO353 := n0_; have HO356 := n1_; have HO359 := n2_; have HO363 := n3_; have HO366 := n4_; have HO369 := n5_; have HO372 := n6_; have HO375 := n7_; have HB := n8_; clear n0_ n1_ n2_ n3_ n4_ n5_ n6_ n7_ n8_; (try clear hb); (try clear hb2); (try clear hk); (try clear hi); obtain ⟨Ao31, co31, eo31⟩ := Kd.N_slice HO363.out; subst eo31; obtain ⟨Ao32, co32, eo32⟩ := Kd.N_slice HO375.out; subst eo32))
     go_meet
     case rel => exact ⟨_, (((t360.length : Int) != (t373.length : Int))), (by first | rfl | (simp; done) | (simp [*]; done)), H', ⟨by first | omega | exact Nat.le_refl _⟩, ⟨by (with_reducible repeat (first | apply Kd.N_alloc | apply Kd.N_drewN | apply Kd.N_drew)); exact Kd.N_mono HO363.out (fun _ hk => hk.2)⟩, ⟨by (with_reducible repeat (first | apply Kd.N_alloc | apply Kd.N_drewN | apply Kd.N_drew)); exact HO375.out⟩, ⟨by repeat (first | (with_reducible first | exact HB.out | apply below_alloc | apply pw_below_drewN | apply below_drew1) | exact HB.out)⟩⟩
   · rw [if_neg c29] at H
     have c29b0 : (t361 == 0) = false := beq_eq_false_iff_ne.mpr c29
     have c29b1 : (t361 != 0) = true := bne_iff_ne.mpr c29
     (first | rw [c29b0] | (simp only [i64_w, i32_w]; rw [c29b0]) | skip)
     have H' := Aside0.mk H
     clear H
     go_wp2_with (first | ((with_reducible refine gate_callee (f := 12) rfl ?_); refine goesL_ (some 28) rfl rfl Tryd.func12 (by kernel_rfl) rfl #[] rfl (by (try simp only [List.map_toArray, List.map_cons, List.map_nil]); first | done | rfl | (simp only [List.length_drop, List.length_take]; rfl)) ?_; (with_reducible refine (pollardlaw19_awake.calls k  true _ A27.out).mono ?_); rintro e w33 ⟨rfl, hb⟩; refine ⟨_, rfl, ?_⟩; have n0_ := Aside0.mk (Kd.V_below (by (with_reducible repeat (first | apply Kd.V_alloc | apply Kd.V_drewN | apply Kd.V_drew)); exact HO353.out) hb); have n1_ := Aside0.mk (Kd.V_below (by (with_reducible repeat (first | apply Kd.V_alloc | apply Kd.V_drewN | apply Kd.V_drew)); exact HO356.out) hb); have n2_ := Aside0.mk (Kd.V_below (by (with_reducible repeat (first | apply Kd.V_alloc | apply Kd.V_drewN | apply Kd.V_drew)); exact HO359.out) hb); have n3_ := Aside0.mk (Kd.N_below (by (with_reducible repeat (first | apply Kd.N_alloc | apply Kd.N_drewN | apply Kd.N_drew)); exact HO363.out) hb); have n4_ := Aside0.mk (Kd.V_below (by (with_reducible repeat (first | apply Kd.V_alloc | apply Kd.V_drewN | apply Kd.V_drew)); exact HO366.out) hb); have n5_ := Aside0.mk (Kd.V_below (by (with_reducible repeat (first | apply Kd.V_alloc | apply Kd.V_drewN | apply Kd.V_drew)); exact HO369.out) hb); have n6_ := Aside0.mk (Kd.V_below (by (with_reducible repeat (first | apply Kd.V_alloc | apply Kd.V_drewN | apply Kd.V_drew)); exact HO372.out) hb); have n7_ := Aside0.mk (Kd.N_below (by (with_reducible repeat (first | apply Kd.N_alloc | apply Kd.N_drewN | apply Kd.N_drew)); exact HO375.out) hb); have n8_ := Aside0.mk (below_step (by repeat (first | (with_reducible first | exact HB.out | apply below_alloc | apply pw_below_drewN | apply below_drew1) | exact HB.out)) hb); clear HO353; clear HO356; clear HO359; clear HO363; clear HO366; clear HO369; clear HO372; clear HO375; clear HB; have HO353 := n0_; have HO356 := n1_; have HO359 := n2_; have HO363 := n3_; have HO366 := n4_; have HO369 := n5_; have HO372 := n6_; have HO375 := n7_; have HB := n8_; clear n0_ n1_ n2_ n3_ n4_ n5_ n6_ n7_ n8_; (try clear hb); (try clear hb2); (try clear hk); (try clear hi)))
     go_meet
     case rel => exact ⟨_, (true), (by first | rfl | (simp; done) | (simp [*]; done)), H', ⟨by first | omega | exact Nat.le_refl _⟩, ⟨by (with_reducible repeat (first | apply Kd.N_alloc | apply Kd.N_drewN | apply Kd.N_drew)); exact Kd.N_mono HO363.out (fun _ hk => hk.2)⟩, ⟨by (with_reducible repeat (first | apply Kd.N_alloc | apply Kd.N_drewN | apply Kd.N_drew)); exact HO375.out⟩, ⟨by repeat (first | (with_reducible first | exact HB.out | apply below_alloc | apply pw_below_drewN | apply below_drew1) | exact HB.out)⟩⟩
  · replace c28 := Bool.eq_false_iff.mpr c28
    subst c28
    have H1 : (pollardlaw19_MergeChunks.j0 k t360 t373 true) = some r := by rw [if_neg (show ¬ (false = true) by decide)] at H; exact H
    clear H
    have H := H1
    clear H1
    have H' := Aside0.mk H
    clear H
    go_wp2_with (first | ((with_reducible refine gate_callee (f := 12) rfl ?_); refine goesL_ (some 28) rfl rfl Tryd.func12 (by kernel_rfl) rfl #[] rfl (by (try simp only [List.map_toArray, List.map_cons, List.map_nil]); first | done | rfl | (simp only [List.length_drop, List.length_take]; rfl)) ?_; (with_reducible refine (pollardlaw19_awake.calls k  false _ A27.out).mono ?_); rintro e w34 ⟨rfl, hb⟩; refine ⟨_, rfl, ?_⟩; have n0_ := Aside0.mk (Kd.V_below (by (with_reducible repeat (first | apply Kd.V_alloc | apply Kd.V_drewN | apply Kd.V_drew)); exact HO353.out) hb); have n1_ := Aside0.mk (Kd.V_below (by (with_reducible repeat (first | apply Kd.V_alloc | apply Kd.V_drewN | apply Kd.V_drew)); exact HO356.out) hb); have n2_ := Aside0.mk (Kd.V_below (by (with_reducible repeat (first | apply Kd.V_alloc | apply Kd.V_drewN | apply Kd.V_drew)); exact HO359.out) hb); have n3_ := Aside0.mk (Kd.N_below (by (with_reducible repeat (first | apply Kd.N_alloc | apply Kd.N_drewN | apply Kd.N_drew)); exact HO363.out) hb); have n4_ := Aside0.mk (Kd.V_below (by (with_reducible repeat (first | apply Kd.V_alloc | apply Kd.V_drewN | apply Kd.V_drew)); exact HO366.out) hb); have n5_ := Aside0.mk (Kd.V_below (by (with_reducible repeat (first | apply Kd.V_alloc | apply Kd.V_drewN | apply Kd.V_drew)); exact HO369.out) hb); have n6_ := Aside0.mk (Kd.V_below (by (with_reducible repeat (first | apply Kd.V_alloc | apply Kd.V_drewN | apply Kd.V_drew)); exact HO372.out) hb); have n7_ := Aside0.mk (Kd.N_below (by (with_reducible repeat (first | apply Kd.N_alloc | apply Kd.N_drewN | apply Kd.N_drew)); exact HO375.out) hb); have n8_ := Aside0.mk (below_step (by repeat (first | (with_reducible first | exact HB.out | apply below_alloc | apply pw_below_drewN | apply below_drew1) | exact HB.out)) hb); clear HO353; clear HO356; clear HO359; clear HO363; clear HO366; clear HO369; clear HO372; clear HO375; clear HB; have HO353 := n0_; have HO356 := n1_; have HO359 := n2_; have HO363 := n3_; have HO366 := n4_; have HO369 := n5_; have HO372 := n6_; have HO375 := n7_; have HB := n8_; clear n0_ n1_ n2_ n3_ n4_ n5_ n6_ n7_ n8_; (try clear hb); (try clear hb2); (try clear hk); (try clear hi)))
    go_meet
    case rel => exact ⟨_, (true), (by first | rfl | (simp; done) | (simp [*]; done)), H', ⟨by first | omega | exact Nat.le_refl _⟩, ⟨by (with_reducible repeat (first | apply Kd.N_alloc | apply Kd.N_drewN | apply Kd.N_drew)); exact Kd.N_mono HO363.out (fun _ hk => hk.2)⟩, ⟨by (with_reducible repeat (first | apply Kd.N_alloc | apply Kd.N_drewN | apply Kd.N_drew)); exact HO375.out⟩, ⟨by repeat (first | (with_reducible first | exact HB.out | apply below_alloc | apply pw_below_drewN | apply below_drew1) | exact HB.out)⟩⟩
 case rest =>
  clear HC12
  try clear c1
  try clear c2
  try clear p2
  try clear c3
  try clear c9
  try clear c10
  try clear c11
  try clear c12
  try clear c28
  try clear c29
  try clear c29b0
  try clear c29b1
  obtain ⟨kq, x40_11, rfl, HA, HJ11, HO_7, HO_9, HB⟩ := hcut
  cases kq with
  | zero => exact absurd HA.out (by simp [pollardlaw19_MergeChunks.j0])
  | succ kj11 =>
   have H := HA.out
   clear HA
   simp only [pollardlaw19_MergeChunks.j0] at H
   by_cases c35 : x40_11 = true
   · subst c35
     have H1 : (none) = some r := by rw [if_pos rfl] at H; exact H
     clear H
     have H := H1
     clear H1
     exact absurd H (by simp)
   ·
    replace c35 := Bool.eq_false_iff.mpr c35
    subst c35
    have H1 : (pollardlaw19_MergeChunks.l0 kj11 t360 t373 0) = some r := by rw [if_neg (show ¬ (false = true) by decide)] at H; exact H
    clear H
    have H := H1
    clear H1
    have H' := Aside0.mk H
    clear H
    go_wp2
    go_loopg [10] kj11 (fun kq v10 w' => ∃ (x10_2 : Int), v10 = .int .i64 x10_2 ∧ Aside0 (pollardlaw19_MergeChunks.l0 kq t360 t373 x10_2 = some r) ∧ Aside0 (kq ≤ kj11) ∧ Aside0 (Kd.N k32 32 w' w.heap.size (fun k_ => some k_ ≠ (v374 : Value).ownBlock) v362 t360) ∧ Aside0 (Kd.N k33 33 w' w.heap.size (fun k_ => some k_ ≠ (v362 : Value).ownBlock) v374 t373) ∧ Aside0 (Below w.heap.size w w'))
    case atStart => exact ⟨(0), (by first | rfl | (simp; done) | (simp [*]; done)), H', ⟨Nat.le_refl _⟩, ⟨by (with_reducible repeat (first | apply Kd.N_alloc | apply Kd.N_drewN | apply Kd.N_drew)); exact HO_7.out⟩, ⟨by (with_reducible repeat (first | apply Kd.N_alloc | apply Kd.N_drewN | apply Kd.N_drew)); exact HO_9.out⟩, ⟨by repeat (first | (with_reducible first | exact HB.out | apply below_alloc | apply pw_below_drewN | apply below_drew1) | exact HB.out)⟩⟩
    case round =>
     clear H'
     try clear c1
     try clear c2
     try clear p2
     try clear c3
     try clear c9
     try clear c10
     try clear c11
     try clear c12
     try clear c28
     try clear c29
     try clear c29b0
     try clear c29b1
     try clear c35
     try clear p2
     obtain ⟨x10_2, rfl, HA, HK2, HO_7, HO_9, HB⟩ := hrel
     cases gk with
     | zero => exact absurd HA.out (by simp [pollardlaw19_MergeChunks.l0])
     | succ k2 =>
      have H := HA.out
      clear HA
      simp only [pollardlaw19_MergeChunks.l0] at H
      by_cases c36 : x10_2 < (t373.length : Int)
      ·
       rw [if_pos c36] at H
       have c36b0 : decide (x10_2 < (t373.length : Int)) = true := decide_eq_true c36
       clear c36
       by_cases c37 : 0 ≤ x10_2
       ·
        rw [if_pos c37] at H
        have c37b0 : decide (0 ≤ x10_2) = true := decide_eq_true c37
        clear c37
        by_cases c38 : x10_2 < (t360.length : Int)
        ·
         rw [if_pos c38] at H
         have c38b0 : decide (x10_2 < (t360.length : Int)) = true := decide_eq_true c38
         clear c38
         by_cases c39 : ((rd_T32 t360 x10_2).f0) = ((rd_T33 t373 x10_2).f0)
         ·
          rw [if_pos c39] at H
          have c39b0 : (((rd_T32 t360 x10_2).f0) == ((rd_T33 t373 x10_2).f0)) = true := beq_iff_eq.mpr c39
          have c39b1 : (((rd_T32 t360 x10_2).f0) != ((rd_T33 t373 x10_2).f0)) = false := bne_eq_false_iff_eq.mpr c39
          clear c39
          replace H := Option.bind_eq_some_iff.mp H
          obtain ⟨t381, A400, H⟩ := H
          replace H : (if t381 = true then ((pollardref19_Same.f k2 ((rd_T32 t360 x10_2).f2) ((rd_T33 t373 x10_2).f2)).bind fun t384 => (if t384 = true then ((pollardref19_Same.f k2 ((rd_T32 t360 x10_2).f3) ((rd_T33 t373 x10_2).f3)).bind fun t387 => (if t387 = true then (pollardlaw19_MergeChunks.l0 k2 t360 t373 (wrap64 (x10_2 + 1))) else (none))) else (none))) else (none)) = some r := H
          have A40 := Aside0.mk A400
          clear A400
          by_cases c41 : t381 = true
          ·
           subst c41
           have H1 : ((pollardref19_Same.f k2 ((rd_T32 t360 x10_2).f2) ((rd_T33 t373 x10_2).f2)).bind fun t384 => (if t384 = true then ((pollardref19_Same.f k2 ((rd_T32 t360 x10_2).f3) ((rd_T33 t373 x10_2).f3)).bind fun t387 => (if t387 = true then (pollardlaw19_MergeChunks.l0 k2 t360 t373 (wrap64 (x10_2 + 1))) else (none))) else (none))) = some r := by rw [if_pos rfl] at H; exact H
           clear H
           have H := H1
           clear H1
           replace H := Option.bind_eq_some_iff.mp H
           obtain ⟨t384, A420, H⟩ := H
           replace H : (if t384 = true then ((pollardref19_Same.f k2 ((rd_T32 t360 x10_2).f3) ((rd_T33 t373 x10_2).f3)).bind fun t387 => (if t387 = true then (pollardlaw19_MergeChunks.l0 k2 t360 t373 (wrap64 (x10_2 + 1))) else (none))) else (none)) = some r := H
           have A42 := Aside0.mk A420
           clear A420
           by_cases c43 : t384 = true
           ·
            subst c43
            have H1 : ((pollardref19_Same.f k2 ((rd_T32 t360 x10_2).f3) ((rd_T33 t373 x10_2).f3)).bind fun t387 => (if t387 = true then (pollardlaw19_MergeChunks.l0 k2 t360 t373 (wrap64 (x10_2 + 1))) else (none))) = some r := by rw [if_pos rfl] at H; exact H
            clear H
            have H := H1
            clear H1
            replace H := Option.bind_eq_some_iff.mp H
            obtain ⟨t387, A440, H⟩ := H
            replace H : (if t387 = true then (pollardlaw19_MergeChunks.l0 k2 t360 t373 (wrap64 (x10_2 + 1))) else (none)) = some r := H
            have A44 := Aside0.mk A440
            clear A440
            by_cases c45 : t387 = true
            ·
             subst c45
             have H1 : (pollardlaw19_MergeChunks.l0 k2 t360 t373 (wrap64 (x10_2 + 1))) = some r := by rw [if_pos rfl] at H; exact H
             clear H
             have H := H1
             clear H1
             have H' := Aside0.mk H
             clear H
             obtain ⟨Ao46, co46, eo46⟩ := Kd.N_slice HO_9.out
             subst eo46
             try go_wp2
             have n0_ := Aside0.mk (Kd.N_drew HO_7.out)
             have n1_ := Aside0.mk (Kd.N_drew HO_9.out)
             have n2_ := Aside0.mk (below_drew1 HB.out)
             clear HO_7
             clear HO_9
             clear HB
             have HO_7 := n0_
             have HO_9 := n1_
             have HB := n2_
             clear n0_ n1_ n2_
             obtain ⟨Ao48, co48, eo48⟩ := Kd.N_slice HO_7.out
             (first | subst eo48 | (injection eo48 with f1_ f2_ f3_; have f4_ := f1_.symm; have f5_ := f3_.symm; clear f1_ f2_ f3_; subst f4_; subst f5_))
             have p377 : 0 ≤ (x10_2 : Int) := of_decide_eq_true (by first | (with_reducible assumption) | assumption)
             have q377 : x10_2 < (t360.length : Int) := of_decide_eq_true (by first | (with_reducible assumption) | assumption)
             obtain ⟨ad377, A377_1, c377_1, A377_2, c377_2, A377_3, c377_3, e377, hx377_0, hx377_1, hx377_2, hx377_3, hl377_1, hi377_1, hl377_2, hi377_2, hl377_3, hi377_3⟩ := at_T32 (Kd.N_reads' HO_7.out).2.2 x10_2 p377 q377
             cases e377
             obtain ⟨ce377, hce377, hMe377, hcc377⟩ := Kd.N_get HO_7.out z32 x10_2 p377 (by first | exact q377 | exact of_decide_eq_true (by first | (with_reducible assumption) | assumption) | (have e_ := (Kd.N_reads' HO_7.out).1; omega))
             obtain ⟨ua377_1, uc377_1, ua377_2, uc377_2, ua377_3, uc377_3, rfl, ul377_1, ge377_1, ul377_2, ge377_2, ul377_3, ge377_3⟩ := k32_openF hMe377
             have hv377_1 := hcc377 1 _ rfl
             rw [add_field _ _ 1 (by omega)] at hv377_1
             replace hv377_1 := Option.some.inj (hv377_1.symm.trans hx377_1)
             injection hv377_1 with hva_ hvn_ hvc_
             rw [hva_] at ge377_1
             rw [hvc_] at ul377_1
             have HL377_1 := Aside0.mk (show Kd.V Kd.string 9 _ w.heap.size _ _ ((rd_T32 t360 x10_2).f1) from Kd.V_mk ul377_1 ge377_1)
             clear hva_ hvn_ hvc_ ge377_1 ul377_1
             have hv377_2 := hcc377 2 _ rfl
             rw [add_field _ _ 2 (by omega)] at hv377_2
             replace hv377_2 := Option.some.inj (hv377_2.symm.trans hx377_2)
             injection hv377_2 with hva_ hvn_ hvc_
             rw [hva_] at ge377_2
             rw [hvc_] at ul377_2
             have HL377_2 := Aside0.mk (show Kd.V Kd.string 9 _ w.heap.size _ _ ((rd_T32 t360 x10_2).f2) from Kd.V_mk ul377_2 ge377_2)
             clear hva_ hvn_ hvc_ ge377_2 ul377_2
             have hv377_3 := hcc377 3 _ rfl
             rw [add_field _ _ 3 (by omega)] at hv377_3
             replace hv377_3 := Option.some.inj (hv377_3.symm.trans hx377_3)
             injection hv377_3 with hva_ hvn_ hvc_
             rw [hva_] at ge377_3
             rw [hvc_] at ul377_3
             have HL377_3 := Aside0.mk (show Kd.V Kd.string 9 _ w.heap.size _ _ ((rd_T32 t360 x10_2).f3) from Kd.V_mk ul377_3 ge377_3)
             clear hva_ hvn_ hvc_ ge377_3 ul377_3
             clear hcc377 hce377
             have HR377_1 := Aside0.mk hi377_1
             have HC377_1 := Aside0.mk hl377_1
             clear hi377_1 hl377_1
             have HR377_2 := Aside0.mk hi377_2
             have HC377_2 := Aside0.mk hl377_2
             clear hi377_2 hl377_2
             have HR377_3 := Aside0.mk hi377_3
             have HC377_3 := Aside0.mk hl377_3
             clear hi377_3 hl377_3
             replace p377 := eq_true p377
             replace q377 := eq_true q377
             have p378 : 0 ≤ (x10_2 : Int) := of_decide_eq_true (by first | (with_reducible assumption) | assumption)
             have q378 : x10_2 < (t373.length : Int) := of_decide_eq_true (by first | (with_reducible assumption) | assumption)
             obtain ⟨ad378, A378_1, c378_1, A378_2, c378_2, A378_3, c378_3, e378, hx378_0, hx378_1, hx378_2, hx378_3, hl378_1, hi378_1, hl378_2, hi378_2, hl378_3, hi378_3⟩ := at_T33 (Kd.N_reads' HO_9.out).2.2 x10_2 p378 q378
             cases e378
             obtain ⟨ce378, hce378, hMe378, hcc378⟩ := Kd.N_get HO_9.out z33 x10_2 p378 (by first | exact q378 | exact of_decide_eq_true (by first | (with_reducible assumption) | assumption) | (have e_ := (Kd.N_reads' HO_9.out).1; omega))
             obtain ⟨ua378_1, uc378_1, ua378_2, uc378_2, ua378_3, uc378_3, rfl, ul378_1, ge378_1, ul378_2, ge378_2, ul378_3, ge378_3⟩ := k33_openF hMe378
             have hv378_1 := hcc378 1 _ rfl
             rw [add_field _ _ 1 (by omega)] at hv378_1
             replace hv378_1 := Option.some.inj (hv378_1.symm.trans hx378_1)
             injection hv378_1 with hva_ hvn_ hvc_
             rw [hva_] at ge378_1
             rw [hvc_] at ul378_1
             have HL378_1 := Aside0.mk (show Kd.V Kd.string 9 _ w.heap.size _ _ ((rd_T33 t373 x10_2).f1) from Kd.V_mk ul378_1 ge378_1)
             clear hva_ hvn_ hvc_ ge378_1 ul378_1
             have hv378_2 := hcc378 2 _ rfl
             rw [add_field _ _ 2 (by omega)] at hv378_2
             replace hv378_2 := Option.some.inj (hv378_2.symm.trans hx378_2)
             injection hv378_2 with hva_ hvn_ hvc_
             rw [hva_] at ge378_2
             rw [hvc_] at ul378_2
             have HL378_2 := Aside0.mk (show Kd.V Kd.string 9 _ w.heap.size _ _ ((rd_T33 t373 x10_2).f2) from Kd.V_mk ul378_2 ge378_2)
             clear hva_ hvn_ hvc_ ge378_2 ul378_2
             have hv378_3 := hcc378 3 _ rfl
             rw [add_field _ _ 3 (by omega)] at hv378_3
             replace hv378_3 := Option.some.inj (hv378_3.symm.trans hx378_3)
             injection hv378_3 with hva_ hvn_ hvc_
             rw [hva_] at ge378_3
             rw [hvc_] at ul378_3
             have HL378_3 := Aside0.mk (show Kd.V Kd.string 9 _ w.heap.size _ _ ((rd_T33 t373 x10_2).f3) from Kd.V_mk ul378_3 ge378_3)
             clear hva_ hvn_ hvc_ ge378_3 ul378_3
             clear hcc378 hce378
             have HR378_1 := Aside0.mk hi378_1
             have HC378_1 := Aside0.mk hl378_1
             clear hi378_1 hl378_1
             have HR378_2 := Aside0.mk hi378_2
             have HC378_2 := Aside0.mk hl378_2
             clear hi378_2 hl378_2
             have HR378_3 := Aside0.mk hi378_3
             have HC378_3 := Aside0.mk hl378_3
             clear hi378_3 hl378_3
             replace p378 := eq_true p378
             replace q378 := eq_true q378
             have p379 : 0 ≤ (x10_2 : Int) := of_decide_eq_true (by first | (with_reducible assumption) | assumption)
             have q379 : x10_2 < (t360.length : Int) := of_decide_eq_true (by first | (with_reducible assumption) | assumption)
             obtain ⟨ad379, A379_1, c379_1, A379_2, c379_2, A379_3, c379_3, e379, hx379_0, hx379_1, hx379_2, hx379_3, hl379_1, hi379_1, hl379_2, hi379_2, hl379_3, hi379_3⟩ := at_T32 (Kd.N_reads' HO_7.out).2.2 x10_2 p379 q379
             obtain rfl : ad377 = ad379 := (by injection e379)
             obtain ⟨ce379, hce379, hMe379, hcc379⟩ := Kd.N_get HO_7.out z32 x10_2 p379 (by first | exact q379 | exact of_decide_eq_true (by first | (with_reducible assumption) | assumption) | (have e_ := (Kd.N_reads' HO_7.out).1; omega))
             obtain ⟨ua379_1, uc379_1, ua379_2, uc379_2, ua379_3, uc379_3, rfl, ul379_1, ge379_1, ul379_2, ge379_2, ul379_3, ge379_3⟩ := k32_openF hMe379
             have hv379_1 := hcc379 1 _ rfl
             rw [add_field _ _ 1 (by omega)] at hv379_1
             replace hv379_1 := Option.some.inj (hv379_1.symm.trans hx379_1)
             injection hv379_1 with hva_ hvn_ hvc_
             rw [hva_] at ge379_1
             rw [hvc_] at ul379_1
             have HL379_1 := Aside0.mk (show Kd.V Kd.string 9 _ w.heap.size _ _ ((rd_T32 t360 x10_2).f1) from Kd.V_mk ul379_1 ge379_1)
             clear hva_ hvn_ hvc_ ge379_1 ul379_1
             have hv379_2 := hcc379 2 _ rfl
             rw [add_field _ _ 2 (by omega)] at hv379_2
             replace hv379_2 := Option.some.inj (hv379_2.symm.trans hx379_2)
             injection hv379_2 with hva_ hvn_ hvc_
             rw [hva_] at ge379_2
             rw [hvc_] at ul379_2
             have HL379_2 := Aside0.mk (show Kd.V Kd.string 9 _ w.heap.size _ _ ((rd_T32 t360 x10_2).f2) from Kd.V_mk ul379_2 ge379_2)
             clear hva_ hvn_ hvc_ ge379_2 ul379_2
             have hv379_3 := hcc379 3 _ rfl
             rw [add_field _ _ 3 (by omega)] at hv379_3
             replace hv379_3 := Option.some.inj (hv379_3.symm.trans hx379_3)
             injection hv379_3 with hva_ hvn_ hvc_
             rw [hva_] at ge379_3
             rw [hvc_] at ul379_3
             have HL379_3 := Aside0.mk (show Kd.V Kd.string 9 _ w.heap.size _ _ ((rd_T32 t360 x10_2).f3) from Kd.V_mk ul379_3 ge379_3)
             clear hva_ hvn_ hvc_ ge379_3 ul379_3
             clear hcc379 hce379
             have HR379_1 := Aside0.mk hi379_1
             have HC379_1 := Aside0.mk hl379_1
             clear hi379_1 hl379_1
             have HR379_2 := Aside0.mk hi379_2
             have HC379_2 := Aside0.mk hl379_2
             clear hi379_2 hl379_2
             have HR379_3 := Aside0.mk hi379_3
             have HC379_3 := Aside0.mk hl379_3
             clear hi379_3 hl379_3
             replace p379 := eq_true p379
             replace q379 := eq_true q379
             have ea_ := Option.some.inj (hx377_1.symm.trans hx379_1)
             injection ea_ with ea_ en_ ec_
             subst ea_
             subst ec_
             clear en_
             have ea_ := Option.some.inj (hx377_2.symm.trans hx379_2)
             injection ea_ with ea_ en_ ec_
             subst ea_
             subst ec_
             clear en_
             have ea_ := Option.some.inj (hx377_3.symm.trans hx379_3)
             injection ea_ with ea_ en_ ec_
             subst ea_
             subst ec_
             clear en_
             have p380 : 0 ≤ (x10_2 : Int) := of_decide_eq_true (by first | (with_reducible assumption) | assumption)
             have q380 : x10_2 < (t373.length : Int) := of_decide_eq_true (by first | (with_reducible assumption) | assumption)
             obtain ⟨ad380, A380_1, c380_1, A380_2, c380_2, A380_3, c380_3, e380, hx380_0, hx380_1, hx380_2, hx380_3, hl380_1, hi380_1, hl380_2, hi380_2, hl380_3, hi380_3⟩ := at_T33 (Kd.N_reads' HO_9.out).2.2 x10_2 p380 q380
             obtain rfl : ad378 = ad380 := (by injection e380)
             obtain ⟨ce380, hce380, hMe380, hcc380⟩ := Kd.N_get HO_9.out z33 x10_2 p380 (by first | exact q380 | exact of_decide_eq_true (by first | (with_reducible assumption) | assumption) | (have e_ := (Kd.N_reads' HO_9.out).1; omega))
             obtain ⟨ua380_1, uc380_1, ua380_2, uc380_2, ua380_3, uc380_3, rfl, ul380_1, ge380_1, ul380_2, ge380_2, ul380_3, ge380_3⟩ := k33_openF hMe380
             have hv380_1 := hcc380 1 _ rfl
             rw [add_field _ _ 1 (by omega)] at hv380_1
             replace hv380_1 := Option.some.inj (hv380_1.symm.trans hx380_1)
             injection hv380_1 with hva_ hvn_ hvc_
             rw [hva_] at ge380_1
             rw [hvc_] at ul380_1
             have HL380_1 := Aside0.mk (show Kd.V Kd.string 9 _ w.heap.size _ _ ((rd_T33 t373 x10_2).f1) from Kd.V_mk ul380_1 ge380_1)
             clear hva_ hvn_ hvc_ ge380_1 ul380_1
             have hv380_2 := hcc380 2 _ rfl
             rw [add_field _ _ 2 (by omega)] at hv380_2
             replace hv380_2 := Option.some.inj (hv380_2.symm.trans hx380_2)
             injection hv380_2 with hva_ hvn_ hvc_
             rw [hva_] at ge380_2
             rw [hvc_] at ul380_2
             have HL380_2 := Aside0.mk (show Kd.V Kd.string 9 _ w.heap.size _ _ ((rd_T33 t373 x10_2).f2) from Kd.V_mk ul380_2 ge380_2)
             clear hva_ hvn_ hvc_ ge380_2 ul380_2
             have hv380_3 := hcc380 3 _ rfl
             rw [add_field _ _ 3 (by omega)] at hv380_3
             replace hv380_3 := Option.some.inj (hv380_3.symm.trans hx380_3)
             injection hv380_3 with hva_ hvn_ hvc_
             rw [hva_] at ge380_3
             rw [hvc_] at ul380_3
             have HL380_3 := Aside0.mk (show Kd.V Kd.string 9 _ w.heap.size _ _ ((rd_T33 t373 x10_2).f3) from Kd.V_mk ul380_3 ge380_3)
             clear hva_ hvn_ hvc_ ge380_3 ul380_3
             clear hcc380 hce380
             have HR380_1 := Aside0.mk hi380_1
             have HC380_1 := Aside0.mk hl380_1
             clear hi380_1 hl380_1
             have HR380_2 := Aside0.mk hi380_2
             have HC380_2 := Aside0.mk hl380_2
             clear hi380_2 hl380_2
             have HR380_3 := Aside0.mk hi380_3
             have HC380_3 := Aside0.mk hl380_3
             clear hi380_3 hl380_3
             replace p380 := eq_true p380
             replace q380 := eq_true q380
             have ea_ := Option.some.inj (hx378_1.symm.trans hx380_1)
             injection ea_ with ea_ en_ ec_
             subst ea_
             subst ec_
             clear en_
             have ea_ := Option.some.inj (hx378_2.symm.trans hx380_2)
             injection ea_ with ea_ en_ ec_
             subst ea_
             subst ec_
             clear en_
             have ea_ := Option.some.inj (hx378_3.symm.trans hx380_3)
             injection ea_ with ea_ en_ ec_
             subst ea_
             subst ec_
             clear en_
             have p382 : 0 ≤ (x10_2 : Int) := of_decide_eq_true (by first | (with_reducible assumption) | assumption)
             have q382 : x10_2 < (t360.length : Int) := of_decide_eq_true (by first | (with_reducible assumption) | assumption)
             obtain ⟨ad382, A382_1, c382_1, A382_2, c382_2, A382_3, c382_3, e382, hx382_0, hx382_1, hx382_2, hx382_3, hl382_1, hi382_1, hl382_2, hi382_2, hl382_3, hi382_3⟩ := at_T32 (Kd.N_reads' HO_7.out).2.2 x10_2 p382 q382
             obtain rfl : ad377 = ad382 := (by injection e382)
             obtain ⟨ce382, hce382, hMe382, hcc382⟩ := Kd.N_get HO_7.out z32 x10_2 p382 (by first | exact q382 | exact of_decide_eq_true (by first | (with_reducible assumption) | assumption) | (have e_ := (Kd.N_reads' HO_7.out).1; omega))
             obtain ⟨ua382_1, uc382_1, ua382_2, uc382_2, ua382_3, uc382_3, rfl, ul382_1, ge382_1, ul382_2, ge382_2, ul382_3, ge382_3⟩ := k32_openF hMe382
             have hv382_1 := hcc382 1 _ rfl
             rw [add_field _ _ 1 (by omega)] at hv382_1
             replace hv382_1 := Option.some.inj (hv382_1.symm.trans hx382_1)
             injection hv382_1 with hva_ hvn_ hvc_
             rw [hva_] at ge382_1
             rw [hvc_] at ul382_1
             have HL382_1 := Aside0.mk (show Kd.V Kd.string 9 _ w.heap.size _ _ ((rd_T32 t360 x10_2).f1) from Kd.V_mk ul382_1 ge382_1)
             clear hva_ hvn_ hvc_ ge382_1 ul382_1
             have hv382_2 := hcc382 2 _ rfl
             rw [add_field _ _ 2 (by omega)] at hv382_2
             replace hv382_2 := Option.some.inj (hv382_2.symm.trans hx382_2)
             injection hv382_2 with hva_ hvn_ hvc_
             rw [hva_] at ge382_2
             rw [hvc_] at ul382_2
             have HL382_2 := Aside0.mk (show Kd.V Kd.string 9 _ w.heap.size _ _ ((rd_T32 t360 x10_2).f2) from Kd.V_mk ul382_2 ge382_2)
             clear hva_ hvn_ hvc_ ge382_2 ul382_2
             have hv382_3 := hcc382 3 _ rfl
             rw [add_field _ _ 3 (by omega)] at hv382_3
             replace hv382_3 := Option.some.inj (hv382_3.symm.trans hx382_3)
             injection hv382_3 with hva_ hvn_ hvc_
             rw [hva_] at ge382_3
             rw [hvc_] at ul382_3
             have HL382_3 := Aside0.mk (show Kd.V Kd.string 9 _ w.heap.size _ _ ((rd_T32 t360 x10_2).f3) from Kd.V_mk ul382_3 ge382_3)
             clear hva_ hvn_ hvc_ ge382_3 ul382_3
             clear hcc382 hce382
             have HR382_1 := Aside0.mk hi382_1
             have HC382_1 := Aside0.mk hl382_1
             clear hi382_1 hl382_1
             have HR382_2 := Aside0.mk hi382_2
             have HC382_2 := Aside0.mk hl382_2
             clear hi382_2 hl382_2
             have HR382_3 := Aside0.mk hi382_3
             have HC382_3 := Aside0.mk hl382_3
             clear hi382_3 hl382_3
             replace p382 := eq_true p382
             replace q382 := eq_true q382
             have ea_ := Option.some.inj (hx377_1.symm.trans hx382_1)
             injection ea_ with ea_ en_ ec_
             subst ea_
             subst ec_
             clear en_
             have ea_ := Option.some.inj (hx377_2.symm.trans hx382_2)
             injection ea_ with ea_ en_ ec_
             subst ea_
             subst ec_
             clear en_
             have ea_ := Option.some.inj (hx377_3.symm.trans hx382_3)
             injection ea_ with ea_ en_ ec_
             subst ea_
             subst ec_
             clear en_
             have p383 : 0 ≤ (x10_2 : Int) := of_decide_eq_true (by first | (with_reducible assumption) | assumption)
             have q383 : x10_2 < (t373.length : Int) := of_decide_eq_true (by first | (with_reducible assumption) | assumption)
             obtain ⟨ad383, A383_1, c383_1, A383_2, c383_2, A383_3, c383_3, e383, hx383_0, hx383_1, hx383_2, hx383_3, hl383_1, hi383_1, hl383_2, hi383_2, hl383_3, hi383_3⟩ := at_T33 (Kd.N_reads' HO_9.out).2.2 x10_2 p383 q383
             obtain rfl : ad378 = ad383 := (by injection e383)
             obtain ⟨ce383, hce383, hMe383, hcc383⟩ := Kd.N_get HO_9.out z33 x10_2 p383 (by first | exact q383 | exact of_decide_eq_true (by first | (with_reducible assumption) | assumption) | (have e_ := (Kd.N_reads' HO_9.out).1; omega))
             obtain ⟨ua383_1, uc383_1, ua383_2, uc383_2, ua383_3, uc383_3, rfl, ul383_1, ge383_1, ul383_2, ge383_2, ul383_3, ge383_3⟩ := k33_openF hMe383
             have hv383_1 := hcc383 1 _ rfl
             rw [add_field _ _ 1 (by omega)] at hv383_1
             replace hv383_1 := Option.some.inj (hv383_1.symm.trans hx383_1)
             injection hv383_1 with hva_ hvn_ hvc_
             rw [hva_] at ge383_1
             rw [hvc_] at ul383_1
             have HL383_1 := Aside0.mk (show Kd.V Kd.string 9 _ w.heap.size _ _ ((rd_T33 t373 x10_2).f1) from Kd.V_mk ul383_1 ge383_1)
             clear hva_ hvn_ hvc_ ge383_1 ul383_1
             have hv383_2 := hcc383 2 _ rfl
             rw [add_field _ _ 2 (by omega)] at hv383_2
             replace hv383_2 := Option.some.inj (hv383_2.symm.trans hx383_2)
             injection hv383_2 with hva_ hvn_ hvc_
             rw [hva_] at ge383_2
             rw [hvc_] at ul383_2
             have HL383_2 := Aside0.mk (show Kd.V Kd.string 9 _ w.heap.size _ _ ((rd_T33 t373 x10_2).f2) from Kd.V_mk ul383_2 ge383_2)
             clear hva_ hvn_ hvc_ ge383_2 ul383_2
             have hv383_3 := hcc383 3 _ rfl
             rw [add_field _ _ 3 (by omega)] at hv383_3
             replace hv383_3 := Option.some.inj (hv383_3.symm.trans hx383_3)
             injection hv383_3 with hva_ hvn_ hvc_
             rw [hva_] at ge383_3
             rw [hvc_] at ul383_3
             have HL383_3 := Aside0.mk (show Kd.V Kd.string 9 _ w.heap.size _ _ ((rd_T33 t373 x10_2).f3) from Kd.V_mk ul383_3 ge383_3)
             clear hva_ hvn_ hvc_ ge383_3 ul383_3
             clear hcc383 hce383
             have HR383_1 := Aside0.mk hi383_1
             have HC383_1 := Aside0.mk hl383_1
             clear hi383_1 hl383_1
             have HR383_2 := Aside0.mk hi383_2
             have HC383_2 := Aside0.mk hl383_2
             clear hi383_2 hl383_2
             have HR383_3 := Aside0.mk hi383_3
             have HC383_3 := Aside0.mk hl383_3
             clear hi383_3 hl383_3
             replace p383 := eq_true p383
             replace q383 := eq_true q383
             have ea_ := Option.some.inj (hx378_1.symm.trans hx383_1)
             injection ea_ with ea_ en_ ec_
             subst ea_
             subst ec_
             clear en_
             have ea_ := Option.some.inj (hx378_2.symm.trans hx383_2)
             injection ea_ with ea_ en_ ec_
             subst ea_
             subst ec_
             clear en_
             have ea_ := Option.some.inj (hx378_3.symm.trans hx383_3)
             injection ea_ with ea_ en_ ec_
             subst ea_
             subst ec_
             clear en_
             have p385 : 0 ≤ (x10_2 : Int) := of_decide_eq_true (by first | (with_reducible assumption) | assumption)
             have q385 : x10_2 < (t360.length : Int) := of_decide_eq_true (by first | (with_reducible assumption) | assumption)
             obtain ⟨ad385, A385_1, c385_1, A385_2, c385_2, A385_3, c385_3, e385, hx385_0, hx385_1, hx385_2, hx385_3, hl385_1, hi385_1, hl385_2, hi385_2, hl385_3, hi385_3⟩ := at_T32 (Kd.N_reads' HO_7.out).2.2 x10_2 p385 q385
             obtain rfl : ad377 = ad385 := (by injection e385)
             obtain ⟨ce385, hce385, hMe385, hcc385⟩ := Kd.N_get HO_7.out z32 x10_2 p385 (by first | exact q385 | exact of_decide_eq_true (by first | (with_reducible assumption) | assumption) | (have e_ := (Kd.N_reads' HO_7.out).1; omega))
             obtain ⟨ua385_1, uc385_1, ua385_2, uc385_2, ua385_3, uc385_3, rfl, ul385_1, ge385_1, ul385_2, ge385_2, ul385_3, ge385_3⟩ := k32_openF hMe385
             have hv385_1 := hcc385 1 _ rfl
             rw [add_field _ _ 1 (by omega)] at hv385_1
             replace hv385_1 := Option.some.inj (hv385_1.symm.trans hx385_1)
             injection hv385_1 with hva_ hvn_ hvc_
             rw [hva_] at ge385_1
             rw [hvc_] at ul385_1
             have HL385_1 := Aside0.mk (show Kd.V Kd.string 9 _ w.heap.size _ _ ((rd_T32 t360 x10_2).f1) from Kd.V_mk ul385_1 ge385_1)
             clear hva_ hvn_ hvc_ ge385_1 ul385_1
             have hv385_2 := hcc385 2 _ rfl
             rw [add_field _ _ 2 (by omega)] at hv385_2
             replace hv385_2 := Option.some.inj (hv385_2.symm.trans hx385_2)
             injection hv385_2 with hva_ hvn_ hvc_
             rw [hva_] at ge385_2
             rw [hvc_] at ul385_2
             have HL385_2 := Aside0.mk (show Kd.V Kd.string 9 _ w.heap.size _ _ ((rd_T32 t360 x10_2).f2) from Kd.V_mk ul385_2 ge385_2)
             clear hva_ hvn_ hvc_ ge385_2 ul385_2
             have hv385_3 := hcc385 3 _ rfl
             rw [add_field _ _ 3 (by omega)] at hv385_3
             replace hv385_3 := Option.some.inj (hv385_3.symm.trans hx385_3)
             injection hv385_3 with hva_ hvn_ hvc_
             rw [hva_] at ge385_3
             rw [hvc_] at ul385_3
             have HL385_3 := Aside0.mk (show Kd.V Kd.string 9 _ w.heap.size _ _ ((rd_T32 t360 x10_2).f3) from Kd.V_mk ul385_3 ge385_3)
             clear hva_ hvn_ hvc_ ge385_3 ul385_3
             clear hcc385 hce385
             have HR385_1 := Aside0.mk hi385_1
             have HC385_1 := Aside0.mk hl385_1
             clear hi385_1 hl385_1
             have HR385_2 := Aside0.mk hi385_2
             have HC385_2 := Aside0.mk hl385_2
             clear hi385_2 hl385_2
             have HR385_3 := Aside0.mk hi385_3
             have HC385_3 := Aside0.mk hl385_3
             clear hi385_3 hl385_3
             replace p385 := eq_true p385
             replace q385 := eq_true q385
             have ea_ := Option.some.inj (hx377_1.symm.trans hx385_1)
             injection ea_ with ea_ en_ ec_
             subst ea_
             subst ec_
             clear en_
             have ea_ := Option.some.inj (hx377_2.symm.trans hx385_2)
             injection ea_ with ea_ en_ ec_
             subst ea_
             subst ec_
             clear en_
             have ea_ := Option.some.inj (hx377_3.symm.trans hx385_3)
             injection ea_ with ea_ en_ ec_
             subst ea_
             subst ec_
             clear en_
             have p386 : 0 ≤ (x10_2 : Int) := of_decide_eq_true (by first | (with_reducible assumption) | assumption)
             have q386 : x10_2 < (t373.length : Int) := of_decide_eq_true (by first | (with_reducible assumption) | assumption)
             obtain ⟨ad386, A386_1, c386_1, A386_2, c386_2, A386_3, c386_3, e386, hx386_0, hx386_1, hx386_2, hx386_3, hl386_1, hi386_1, hl386_2, hi386_2, hl386_3, hi386_3⟩ := at_T33 (Kd.N_reads' HO_9.out).2.2 x10_2 p386 q386
             obtain rfl : ad378 = ad386 := (by injection e386)
             obtain ⟨ce386, hce386, hMe386, hcc386⟩ := Kd.N_get HO_9.out z33 x10_2 p386 (by first | exact q386 | exact of_decide_eq_true (by first | (with_reducible assumption) | assumption) | (have e_ := (Kd.N_reads' HO_9.out).1; omega))
             obtain ⟨ua386_1, uc386_1, ua386_2, uc386_2, ua386_3, uc386_3, rfl, ul386_1, ge386_1, ul386_2, ge386_2, ul386_3, ge386_3⟩ := k33_openF hMe386
             have hv386_1 := hcc386 1 _ rfl
             rw [add_field _ _ 1 (by omega)] at hv386_1
             replace hv386_1 := Option.some.inj (hv386_1.symm.trans hx386_1)
             injection hv386_1 with hva_ hvn_ hvc_
             rw [hva_] at ge386_1
             rw [hvc_] at ul386_1
             have HL386_1 := Aside0.mk (show Kd.V Kd.string 9 _ w.heap.size _ _ ((rd_T33 t373 x10_2).f1) from Kd.V_mk ul386_1 ge386_1)
             clear hva_ hvn_ hvc_ ge386_1 ul386_1
             have hv386_2 := hcc386 2 _ rfl
             rw [add_field _ _ 2 (by omega)] at hv386_2
             replace hv386_2 := Option.some.inj (hv386_2.symm.trans hx386_2)
             injection hv386_2 with hva_ hvn_ hvc_
             rw [hva_] at ge386_2
             rw [hvc_] at ul386_2
             have HL386_2 := Aside0.mk (show Kd.V Kd.string 9 _ w.heap.size _ _ ((rd_T33 t373 x10_2).f2) from Kd.V_mk ul386_2 ge386_2)
             clear hva_ hvn_ hvc_ ge386_2 ul386_2
             have hv386_3 := hcc386 3 _ rfl
             rw [add_field _ _ 3 (by omega)] at hv386_3
             replace hv386_3 := Option.some.inj (hv386_3.symm.trans hx386_3)
             injection hv386_3 with hva_ hvn_ hvc_
             rw [hva_] at ge386_3
             rw [hvc_] at ul386_3
             have HL386_3 := Aside0.mk (show Kd.V Kd.string 9 _ w.heap.size _ _ ((rd_T33 t373 x10_2).f3) from Kd.V_mk ul386_3 ge386_3)
             clear hva_ hvn_ hvc_ ge386_3 ul386_3
             clear hcc386 hce386
             have HR386_1 := Aside0.mk hi386_1
             have HC386_1 := Aside0.mk hl386_1
             clear hi386_1 hl386_1
             have HR386_2 := Aside0.mk hi386_2
             have HC386_2 := Aside0.mk hl386_2
             clear hi386_2 hl386_2
             have HR386_3 := Aside0.mk hi386_3
             have HC386_3 := Aside0.mk hl386_3
             clear hi386_3 hl386_3
             replace p386 := eq_true p386
             replace q386 := eq_true q386
             have ea_ := Option.some.inj (hx378_1.symm.trans hx386_1)
             injection ea_ with ea_ en_ ec_
             subst ea_
             subst ec_
             clear en_
             have ea_ := Option.some.inj (hx378_2.symm.trans hx386_2)
             injection ea_ with ea_ en_ ec_
             subst ea_
             subst ec_
             clear en_
             have ea_ := Option.some.inj (hx378_3.symm.trans hx386_3)
             injection ea_ with ea_ en_ ec_
             subst ea_
             subst ec_
             clear en_
             refine start_ (n := 53) (S := fun w' => w'.cell? (ad377.add ((x10_2).toNat * 4)) = some (.int .i64 ((rd_T32 t360 x10_2).f0)) ∧ w'.cell? ⟨(ad377.add ((x10_2).toNat * 4)).block, (ad377.add ((x10_2).toNat * 4)).off + 1, none⟩ = some (.slice A377_1 ((rd_T32 t360 x10_2).f1).length c377_1) ∧ w'.cell? ⟨(ad377.add ((x10_2).toNat * 4)).block, (ad377.add ((x10_2).toNat * 4)).off + 2, none⟩ = some (.slice A377_2 ((rd_T32 t360 x10_2).f2).length c377_2) ∧ w'.cell? ⟨(ad377.add ((x10_2).toNat * 4)).block, (ad377.add ((x10_2).toNat * 4)).off + 3, none⟩ = some (.slice A377_3 ((rd_T32 t360 x10_2).f3).length c377_3) ∧ w'.cell? (ad378.add ((x10_2).toNat * 4)) = some (.int .i64 ((rd_T33 t373 x10_2).f0)) ∧ w'.cell? ⟨(ad378.add ((x10_2).toNat * 4)).block, (ad378.add ((x10_2).toNat * 4)).off + 1, none⟩ = some (.slice A378_1 ((rd_T33 t373 x10_2).f1).length c378_1) ∧ w'.cell? ⟨(ad378.add ((x10_2).toNat * 4)).block, (ad378.add ((x10_2).toNat * 4)).off + 2, none⟩ = some (.slice A378_2 ((rd_T33 t373 x10_2).f2).length c378_2) ∧ w'.cell? ⟨(ad378.add ((x10_2).toNat * 4)).block, (ad378.add ((x10_2).toNat * 4)).off + 3, none⟩ = some (.slice A378_3 ((rd_T33 t373 x10_2).f3).length c378_3) ∧ w'.cell? (ad377.add ((x10_2).toNat * 4)) = some (.int .i64 ((rd_T32 t360 x10_2).f0)) ∧ w'.cell? ⟨(ad377.add ((x10_2).toNat * 4)).block, (ad377.add ((x10_2).toNat * 4)).off + 1, none⟩ = some (.slice A377_1 ((rd_T32 t360 x10_2).f1).length c377_1) ∧ w'.cell? ⟨(ad377.add ((x10_2).toNat * 4)).block, (ad377.add ((x10_2).toNat * 4)).off + 2, none⟩ = some (.slice A377_2 ((rd_T32 t360 x10_2).f2).length c377_2) ∧ w'.cell? ⟨(ad377.add ((x10_2).toNat * 4)).block, (ad377.add ((x10_2).toNat * 4)).off + 3, none⟩ = some (.slice A377_3 ((rd_T32 t360 x10_2).f3).length c377_3) ∧ w'.cell? (ad378.add ((x10_2).toNat * 4)) = some (.int .i64 ((rd_T33 t373 x10_2).f0)) ∧ w'.cell? ⟨(ad378.add ((x10_2).toNat * 4)).block, (ad378.add ((x10_2).toNat * 4)).off + 1, none⟩ = some (.slice A378_1 ((rd_T33 t373 x10_2).f1).length c378_1) ∧ w'.cell? ⟨(ad378.add ((x10_2).toNat * 4)).block, (ad378.add ((x10_2).toNat * 4)).off + 2, none⟩ = some (.slice A378_2 ((rd_T33 t373 x10_2).f2).length c378_2) ∧ w'.cell? ⟨(ad378.add ((x10_2).toNat * 4)).block, (ad378.add ((x10_2).toNat * 4)).off + 3, none⟩ = some (.slice A378_3 ((rd_T33 t373 x10_2).f3).length c378_3) ∧ w'.cell? (ad377.add ((x10_2).toNat * 4)) = some (.int .i64 ((rd_T32 t360 x10_2).f0)) ∧ w'.cell? ⟨(ad377.add ((x10_2).toNat * 4)).block, (ad377.add ((x10_2).toNat * 4)).off + 1, none⟩ = some (.slice A377_1 ((rd_T32 t360 x10_2).f1).length c377_1) ∧ w'.cell? ⟨(ad377.add ((x10_2).toNat * 4)).block, (ad377.add ((x10_2).toNat * 4)).off + 2, none⟩ = some (.slice A377_2 ((rd_T32 t360 x10_2).f2).length c377_2) ∧ w'.cell? ⟨(ad377.add ((x10_2).toNat * 4)).block, (ad377.add ((x10_2).toNat * 4)).off + 3, none⟩ = some (.slice A377_3 ((rd_T32 t360 x10_2).f3).length c377_3) ∧ w'.cell? (ad378.add ((x10_2).toNat * 4)) = some (.int .i64 ((rd_T33 t373 x10_2).f0)) ∧ w'.cell? ⟨(ad378.add ((x10_2).toNat * 4)).block, (ad378.add ((x10_2).toNat * 4)).off + 1, none⟩ = some (.slice A378_1 ((rd_T33 t373 x10_2).f1).length c378_1) ∧ w'.cell? ⟨(ad378.add ((x10_2).toNat * 4)).block, (ad378.add ((x10_2).toNat * 4)).off + 2, none⟩ = some (.slice A378_2 ((rd_T33 t373 x10_2).f2).length c378_2) ∧ w'.cell? ⟨(ad378.add ((x10_2).toNat * 4)).block, (ad378.add ((x10_2).toNat * 4)).off + 3, none⟩ = some (.slice A378_3 ((rd_T33 t373 x10_2).f3).length c378_3) ∧ w'.cell? (ad377.add ((x10_2).toNat * 4)) = some (.int .i64 ((rd_T32 t360 x10_2).f0)) ∧ w'.cell? ⟨(ad377.add ((x10_2).toNat * 4)).block, (ad377.add ((x10_2).toNat * 4)).off + 1, none⟩ = some (.slice A377_1 ((rd_T32 t360 x10_2).f1).length c377_1) ∧ w'.cell? ⟨(ad377.add ((x10_2).toNat * 4)).block, (ad377.add ((x10_2).toNat * 4)).off + 2, none⟩ = some (.slice A377_2 ((rd_T32 t360 x10_2).f2).length c377_2) ∧ w'.cell? ⟨(ad377.add ((x10_2).toNat * 4)).block, (ad377.add ((x10_2).toNat * 4)).off + 3, none⟩ = some (.slice A377_3 ((rd_T32 t360 x10_2).f3).length c377_3) ∧ w'.cell? (ad378.add ((x10_2).toNat * 4)) = some (.int .i64 ((rd_T33 t373 x10_2).f0)) ∧ w'.cell? ⟨(ad378.add ((x10_2).toNat * 4)).block, (ad378.add ((x10_2).toNat * 4)).off + 1, none⟩ = some (.slice A378_1 ((rd_T33 t373 x10_2).f1).length c378_1) ∧ w'.cell? ⟨(ad378.add ((x10_2).toNat * 4)).block, (ad378.add ((x10_2).toNat * 4)).off + 2, none⟩ = some (.slice A378_2 ((rd_T33 t373 x10_2).f2).length c378_2) ∧ w'.cell? ⟨(ad378.add ((x10_2).toNat * 4)).block, (ad378.add ((x10_2).toNat * 4)).off + 3, none⟩ = some (.slice A378_3 ((rd_T33 t373 x10_2).f3).length c378_3)) (ds := []) #[false, false, false, false, false, false, false, false, false, false, false, false, false, false, false, false, false, false, false, false, false, false, false, false, false, false, false, false, false, false, false, false, false, false, false, false, false, false, false, false, false, false, false, false, false, false, false, false, false, false, false, false, false] (by kernel_rfl) rfl rfl ⟨hx377_0, hx377_1, hx377_2, hx377_3, hx378_0, hx378_1, hx378_2, hx378_3, hx379_0, hx379_1, hx379_2, hx379_3, hx380_0, hx380_1, hx380_2, hx380_3, hx382_0, hx382_1, hx382_2, hx382_3, hx383_0, hx383_1, hx383_2, hx383_3, hx385_0, hx385_1, hx385_2, hx385_3, hx386_0, hx386_1, hx386_2, hx386_3⟩ (fun hHeld => ?_); refine with_tabW pollardlaw19_MergeChunks.tab8 pollardlaw19_MergeChunks.bits8 (fun HT_ HW_ => ?_)
             generalize wr.drew = w47 at HO_7 HO_9 HB HL377_1 HL377_2 HL377_3 HL378_1 HL378_2 HL378_3 HL379_1 HL379_2 HL379_3 HL380_1 HL380_2 HL380_3 HL382_1 HL382_2 HL382_3 HL383_1 HL383_2 HL383_3 HL385_1 HL385_2 HL385_3 HL386_1 HL386_2 HL386_3 HR377_1 HR377_2 HR377_3 HR378_1 HR378_2 HR378_3 HR379_1 HR379_2 HR379_3 HR380_1 HR380_2 HR380_3 HR382_1 HR382_2 HR382_3 HR383_1 HR383_2 HR383_3 HR385_1 HR385_2 HR385_3 HR386_1 HR386_2 HR386_3 hx377_0 hx377_1 hx377_2 hx377_3 hx378_0 hx378_1 hx378_2 hx378_3 hx379_0 hx379_1 hx379_2 hx379_3 hx380_0 hx380_1 hx380_2 hx380_3 hx382_0 hx382_1 hx382_2 hx382_3 hx383_0 hx383_1 hx383_2 hx383_3 hx385_0 hx385_1 hx385_2 hx385_3 hx386_0 hx386_1 hx386_2 hx386_3 hHeld ⊢
             refine pure_ (i := 0) (N := some 47) (v := ?_) (a' := ?_) #[true, false, false, false, false, false, false, false, false, false, false, false, false, false, false, false, false, false, false, false, false, false, false, false, false, false, false, false, false, false, false, false, false, false, false, false, false, false, false, false, false, false, false, false, false, false, false, false, false, false, false, false, false] rfl rfl (any_of HT_.out (by kernel_rfl)) (fun _ _ _ h => h) (Or.inl ⟨by rfl, ?_⟩) ?_ ?_
             rotate_left
             · intro w'
               go_simp
               with_reducible rfl
             rotate_left
             · simp only [Act.put, List.setIfInBounds_toArray, List.set_cons_zero, List.set_cons_succ, i64_w, i32_w]
               rfl
             refine pure_ (i := 1) (N := some 48) (v := ?_) (a' := ?_) #[true, true, false, false, false, false, false, false, false, false, false, false, false, false, false, false, false, false, false, false, false, false, false, false, false, false, false, false, false, false, false, false, false, false, false, false, false, false, false, false, false, false, false, false, false, false, false, false, false, false, false, false, false] rfl rfl (any_of HT_.out (by kernel_rfl)) (fun _ _ _ h => h) (Or.inl ⟨by rfl, ?_⟩) ?_ ?_
             rotate_left
             · intro w'
               go_simp
               with_reducible rfl
             rotate_left
             · simp only [Act.put, List.setIfInBounds_toArray, List.set_cons_zero, List.set_cons_succ, i64_w, i32_w]
               rfl
             refine pure_ (i := 2) (N := some 49) (v := ?_) (a' := ?_) #[true, true, true, false, false, false, false, false, false, false, false, false, false, false, false, false, false, false, false, false, false, false, false, false, false, false, false, false, false, false, false, false, false, false, false, false, false, false, false, false, false, false, false, false, false, false, false, false, false, false, false, false, false] rfl rfl (any_of HT_.out (by kernel_rfl)) (fun _ _ _ h => h) (Or.inl ⟨by rfl, ?_⟩) ?_ ?_
             rotate_left
             · intro w'
               go_simp
               with_reducible rfl
             rotate_left
             · simp only [Act.put, List.setIfInBounds_toArray, List.set_cons_zero, List.set_cons_succ, i64_w, i32_w]
               rfl
             refine pure_ (i := 3) (N := some 50) (v := ?_) (a' := ?_) #[true, true, true, true, false, false, false, false, false, false, false, false, false, false, false, false, false, false, false, false, false, false, false, false, false, false, false, false, false, false, false, false, false, false, false, false, false, false, false, false, false, false, false, false, false, false, false, false, false, false, false, false, false] rfl rfl (any_of HT_.out (by kernel_rfl)) (fun _ _ _ h => h) (Or.inl ⟨by rfl, ?_⟩) ?_ ?_
             rotate_left
             · intro w'
               go_simp
               with_reducible rfl
             rotate_left
             · simp only [Act.put, List.setIfInBounds_toArray, List.set_cons_zero, List.set_cons_succ, i64_w, i32_w]
               rfl
             refine pure_ (i := 5) (N := some 52) (v := ?_) (a' := ?_) #[true, true, true, true, false, true, false, false, false, false, false, false, false, false, false, false, false, false, false, false, false, false, false, false, false, false, false, false, false, false, false, false, false, false, false, false, false, false, false, false, false, false, false, false, false, false, false, false, false, false, false, false, false] rfl rfl (any_of HT_.out (by kernel_rfl)) (fun _ _ _ h => h) (Or.inl ⟨by rfl, ?_⟩) ?_ ?_
             rotate_left
             · intro w'
               go_simp
               with_reducible rfl
             rotate_left
             · simp only [Act.put, List.setIfInBounds_toArray, List.set_cons_zero, List.set_cons_succ, i64_w, i32_w]
               rfl
             refine pure_ (i := 6) (N := some 53) (v := ?_) (a' := ?_) #[true, true, true, true, false, true, true, false, false, false, false, false, false, false, false, false, false, false, false, false, false, false, false, false, false, false, false, false, false, false, false, false, false, false, false, false, false, false, false, false, false, false, false, false, false, false, false, false, false, false, false, false, false] rfl rfl (any_of HT_.out (by kernel_rfl)) (fun _ _ _ h => h) (Or.inl ⟨by rfl, ?_⟩) ?_ ?_
             rotate_left
             · intro w'
               go_simp
               with_reducible rfl
             rotate_left
             · simp only [Act.put, List.setIfInBounds_toArray, List.set_cons_zero, List.set_cons_succ, i64_w, i32_w]
               rfl
             refine pure_ (i := 7) (N := some 54) (v := ?_) (a' := ?_) #[true, true, true, true, false, true, true, true, false, false, false, false, false, false, false, false, false, false, false, false, false, false, false, false, false, false, false, false, false, false, false, false, false, false, false, false, false, false, false, false, false, false, false, false, false, false, false, false, false, false, false, false, false] rfl rfl (any_of HT_.out (by kernel_rfl)) (fun _ _ _ h => h) (Or.inl ⟨by rfl, ?_⟩) ?_ ?_
             rotate_left
             · intro w'
               go_simp
               with_reducible rfl
             rotate_left
             · simp only [Act.put, List.setIfInBounds_toArray, List.set_cons_zero, List.set_cons_succ, i64_w, i32_w]
               rfl
             refine pure_ (i := 8) (N := some 55) (v := ?_) (a' := ?_) #[true, true, true, true, false, true, true, true, true, false, false, false, false, false, false, false, false, false, false, false, false, false, false, false, false, false, false, false, false, false, false, false, false, false, false, false, false, false, false, false, false, false, false, false, false, false, false, false, false, false, false, false, false] rfl rfl (any_of HT_.out (by kernel_rfl)) (fun _ _ _ h => h) (Or.inl ⟨by rfl, ?_⟩) ?_ ?_
             rotate_left
             · intro w'
               go_simp
               with_reducible rfl
             rotate_left
             · simp only [Act.put, List.setIfInBounds_toArray, List.set_cons_zero, List.set_cons_succ, i64_w, i32_w]
               rfl
             refine take_ (i := 4) (N := some 51) (v := ?_) (a' := ?_) #[true, true, true, true, true, true, true, true, true, false, false, false, false, false, false, false, false, false, false, false, false, false, false, false, false, false, false, false, false, false, false, false, false, false, false, false, false, false, false, false, false, false, false, false, false, false, false, false, false, false, false, false, false] rfl rfl (take_ofW HT_.out HW_.out (by kernel_rfl)) (fun _ _ _ h => h) (Or.inl ⟨by rfl, ?_⟩) hHeld ?_ ?_
             rotate_left
             · rintro w' ⟨s0, s1, s2, s3, s4, s5, s6, s7, s8, s9, s10, s11, s12, s13, s14, s15, s16, s17, s18, s19, s20, s21, s22, s23, s24, s25, s26, s27, s28, s29, s30, s31⟩
               go_simp
               with_reducible rfl
             rotate_left
             · simp only [Act.put, List.setIfInBounds_toArray, List.set_cons_zero, List.set_cons_succ, i64_w, i32_w]
               rfl
             refine take_ (i := 9) (N := some 56) (v := ?_) (a' := ?_) #[true, true, true, true, true, true, true, true, true, true, false, false, false, false, false, false, false, false, false, false, false, false, false, false, false, false, false, false, false, false, false, false, false, false, false, false, false, false, false, false, false, false, false, false, false, false, false, false, false, false, false, false, false] rfl rfl (take_ofW HT_.out HW_.out (by kernel_rfl)) (fun _ _ _ h => h) (Or.inl ⟨by rfl, ?_⟩) hHeld ?_ ?_
             rotate_left
             · rintro w' ⟨s0, s1, s2, s3, s4, s5, s6, s7, s8, s9, s10, s11, s12, s13, s14, s15, s16, s17, s18, s19, s20, s21, s22, s23, s24, s25, s26, s27, s28, s29, s30, s31⟩
               go_simp
               with_reducible rfl
             rotate_left
             · simp only [Act.put, List.setIfInBounds_toArray, List.set_cons_zero, List.set_cons_succ, i64_w, i32_w]
               rfl
             refine pure_ (i := 10) (N := some 57) (v := ?_) (a' := ?_) #[true, true, true, true, true, true, true, true, true, true, true, false, false, false, false, false, false, false, false, false, false, false, false, false, false, false, false, false, false, false, false, false, false, false, false, false, false, false, false, false, false, false, false, false, false, false, false, false, false, false, false, false, false] rfl rfl (any_of HT_.out (by kernel_rfl)) (fun _ _ _ h => h) (Or.inl ⟨by rfl, ?_⟩) ?_ ?_
             rotate_left
             · intro w'
               go_simp
               with_reducible rfl
             rotate_left
             · simp only [Act.put, List.setIfInBounds_toArray, List.set_cons_zero, List.set_cons_succ, i64_w, i32_w]
               rfl
             refine pure_ (i := 11) (N := some 58) (v := ?_) (a' := ?_) #[true, true, true, true, true, true, true, true, true, true, true, true, false, false, false, false, false, false, false, false, false, false, false, false, false, false, false, false, false, false, false, false, false, false, false, false, false, false, false, false, false, false, false, false, false, false, false, false, false, false, false, false, false] rfl rfl (any_of HT_.out (by kernel_rfl)) (fun _ _ _ h => h) (Or.inl ⟨by rfl, ?_⟩) ?_ ?_
             rotate_left
             · intro w'
               go_simp
               with_reducible rfl
             rotate_left
             · simp only [Act.put, List.setIfInBounds_toArray, List.set_cons_zero, List.set_cons_succ, i64_w, i32_w]
               rfl
             refine pure_ (i := 12) (N := some 59) (v := ?_) (a' := ?_) #[true, true, true, true, true, true, true, true, true, true, true, true, true, false, false, false, false, false, false, false, false, false, false, false, false, false, false, false, false, false, false, false, false, false, false, false, false, false, false, false, false, false, false, false, false, false, false, false, false, false, false, false, false] rfl rfl (any_of HT_.out (by kernel_rfl)) (fun _ _ _ h => h) (Or.inl ⟨by rfl, ?_⟩) ?_ ?_
             rotate_left
             · intro w'
               go_simp
               with_reducible rfl
             rotate_left
             · simp only [Act.put, List.setIfInBounds_toArray, List.set_cons_zero, List.set_cons_succ, i64_w, i32_w]
               rfl
             refine pure_ (i := 13) (N := some 60) (v := ?_) (a' := ?_) #[true, true, true, true, true, true, true, true, true, true, true, true, true, true, false, false, false, false, false, false, false, false, false, false, false, false, false, false, false, false, false, false, false, false, false, false, false, false, false, false, false, false, false, false, false, false, false, false, false, false, false, false, false] rfl rfl (any_of HT_.out (by kernel_rfl)) (fun _ _ _ h => h) (Or.inl ⟨by rfl, ?_⟩) ?_ ?_
             rotate_left
             · intro w'
               go_simp
               with_reducible rfl
             rotate_left
             · simp only [Act.put, List.setIfInBounds_toArray, List.set_cons_zero, List.set_cons_succ, i64_w, i32_w]
               rfl
             refine pure_ (i := 14) (N := some 61) (v := ?_) (a' := ?_) #[true, true, true, true, true, true, true, true, true, true, true, true, true, true, true, false, false, false, false, false, false, false, false, false, false, false, false, false, false, false, false, false, false, false, false, false, false, false, false, false, false, false, false, false, false, false, false, false, false, false, false, false, false] rfl rfl (any_of HT_.out (by kernel_rfl)) (fun _ _ _ h => h) (Or.inl ⟨by rfl, ?_⟩) ?_ ?_
             rotate_left
             · intro w'
               go_simp
               with_reducible rfl
             rotate_left
             · simp only [Act.put, List.setIfInBounds_toArray, List.set_cons_zero, List.set_cons_succ, i64_w, i32_w]
               rfl
             refine pure_ (i := 15) (N := some 62) (v := ?_) (a' := ?_) #[true, true, true, true, true, true, true, true, true, true, true, true, true, true, true, true, false, false, false, false, false, false, false, false, false, false, false, false, false, false, false, false, false, false, false, false, false, false, false, false, false, false, false, false, false, false, false, false, false, false, false, false, false] rfl rfl (any_of HT_.out (by kernel_rfl)) (fun _ _ _ h => h) (Or.inl ⟨by rfl, ?_⟩) ?_ ?_
             rotate_left
             · intro w'
               go_simp
               with_reducible rfl
             rotate_left
             · simp only [Act.put, List.setIfInBounds_toArray, List.set_cons_zero, List.set_cons_succ, i64_w, i32_w]
               rfl
             refine pure_ (i := 17) (N := some 64) (v := ?_) (a' := ?_) #[true, true, true, true, true, true, true, true, true, true, true, true, true, true, true, true, false, true, false, false, false, false, false, false, false, false, false, false, false, false, false, false, false, false, false, false, false, false, false, false, false, false, false, false, false, false, false, false, false, false, false, false, false] rfl rfl (any_of HT_.out (by kernel_rfl)) (fun _ _ _ h => h) (Or.inl ⟨by rfl, ?_⟩) ?_ ?_
             rotate_left
             · intro w'
               go_simp
               with_reducible rfl
             rotate_left
             · simp only [Act.put, List.setIfInBounds_toArray, List.set_cons_zero, List.set_cons_succ, i64_w, i32_w]
               rfl
             refine pure_ (i := 18) (N := some 65) (v := ?_) (a' := ?_) #[true, true, true, true, true, true, true, true, true, true, true, true, true, true, true, true, false, true, true, false, false, false, false, false, false, false, false, false, false, false, false, false, false, false, false, false, false, false, false, false, false, false, false, false, false, false, false, false, false, false, false, false, false] rfl rfl (any_of HT_.out (by kernel_rfl)) (fun _ _ _ h => h) (Or.inl ⟨by rfl, ?_⟩) ?_ ?_
             rotate_left
             · intro w'
               go_simp
               with_reducible rfl
             rotate_left
             · simp only [Act.put, List.setIfInBounds_toArray, List.set_cons_zero, List.set_cons_succ, i64_w, i32_w]
               rfl
             refine pure_ (i := 19) (N := some 66) (v := ?_) (a' := ?_) #[true, true, true, true, true, true, true, true, true, true, true, true, true, true, true, true, false, true, true, true, false, false, false, false, false, false, false, false, false, false, false, false, false, false, false, false, false, false, false, false, false, false, false, false, false, false, false, false, false, false, false, false, false] rfl rfl (any_of HT_.out (by kernel_rfl)) (fun _ _ _ h => h) (Or.inl ⟨by rfl, ?_⟩) ?_ ?_
             rotate_left
             · intro w'
               go_simp
               with_reducible rfl
             rotate_left
             · simp only [Act.put, List.setIfInBounds_toArray, List.set_cons_zero, List.set_cons_succ, i64_w, i32_w]
               rfl
             refine pure_ (i := 20) (N := some 67) (v := ?_) (a' := ?_) #[true, true, true, true, true, true, true, true, true, true, true, true, true, true, true, true, false, true, true, true, true, false, false, false, false, false, false, false, false, false, false, false, false, false, false, false, false, false, false, false, false, false, false, false, false, false, false, false, false, false, false, false, false] rfl rfl (any_of HT_.out (by kernel_rfl)) (fun _ _ _ h => h) (Or.inl ⟨by rfl, ?_⟩) ?_ ?_
             rotate_left
             · intro w'
               go_simp
               with_reducible rfl
             rotate_left
             · simp only [Act.put, List.setIfInBounds_toArray, List.set_cons_zero, List.set_cons_succ, i64_w, i32_w]
               rfl
             refine take_ (i := 16) (N := some 63) (v := ?_) (a' := ?_) #[true, true, true, true, true, true, true, true, true, true, true, true, true, true, true, true, true, true, true, true, true, false, false, false, false, false, false, false, false, false, false, false, false, false, false, false, false, false, false, false, false, false, false, false, false, false, false, false, false, false, false, false, false] rfl rfl (take_ofW HT_.out HW_.out (by kernel_rfl)) (fun _ _ _ h => h) (Or.inl ⟨by rfl, ?_⟩) hHeld ?_ ?_
             rotate_left
             · rintro w' ⟨s0, s1, s2, s3, s4, s5, s6, s7, s8, s9, s10, s11, s12, s13, s14, s15, s16, s17, s18, s19, s20, s21, s22, s23, s24, s25, s26, s27, s28, s29, s30, s31⟩
               go_simp
               with_reducible rfl
             rotate_left
             · simp only [Act.put, List.setIfInBounds_toArray, List.set_cons_zero, List.set_cons_succ, i64_w, i32_w]
               rfl
             refine take_ (i := 21) (N := some 68) (v := ?_) (a' := ?_) #[true, true, true, true, true, true, true, true, true, true, true, true, true, true, true, true, true, true, true, true, true, true, false, false, false, false, false, false, false, false, false, false, false, false, false, false, false, false, false, false, false, false, false, false, false, false, false, false, false, false, false, false, false] rfl rfl (take_ofW HT_.out HW_.out (by kernel_rfl)) (fun _ _ _ h => h) (Or.inl ⟨by rfl, ?_⟩) hHeld ?_ ?_
             rotate_left
             · rintro w' ⟨s0, s1, s2, s3, s4, s5, s6, s7, s8, s9, s10, s11, s12, s13, s14, s15, s16, s17, s18, s19, s20, s21, s22, s23, s24, s25, s26, s27, s28, s29, s30, s31⟩
               go_simp
               with_reducible rfl
             rotate_left
             · simp only [Act.put, List.setIfInBounds_toArray, List.set_cons_zero, List.set_cons_succ, i64_w, i32_w]
               rfl
             refine one_ (i := 22) (N := some 69) #[true, true, true, true, true, true, true, true, true, true, true, true, true, true, true, true, true, true, true, true, true, true, true, false, false, false, false, false, false, false, false, false, false, false, false, false, false, false, false, false, false, false, false, false, false, false, false, false, false, false, false, false, false] rfl rfl (one_of HT_.out (by kernel_rfl)) (by decide) (fun K hK => ?_)
             refine goes_ Tryd.func13 (by kernel_rfl) rfl #[.slice A377_1 ((rd_T32 t360 x10_2).f1).length c377_1, .slice A378_1 ((rd_T33 t373 x10_2).f1).length c378_1] (by rfl) rfl rfl (by (try simp only [List.map_toArray, List.map_cons, List.map_nil]); first | done | rfl | (simp only [List.length_drop, List.length_take]; rfl)) ?_
             with_reducible refine (pollardref19_Same.calls k2 _ _ ((rd_T32 t360 x10_2).f1) _ _ ((rd_T33 t373 x10_2).f1) true _ ?side1 ?side2 ?side3 ?side4 A40.out).mono ?_
             (case side1 => repeat (first | exact (by repeat (first | (with_reducible exact HR379_1.out) | (with_reducible refine Kd.C_alloc ?_ _) | (with_reducible refine Kd.C_drewN ?_ _) | (with_reducible refine Kd.C_drew ?_) | exact HR379_1.out)) | (with_reducible refine Kd.C_alloc ?_ _) | (with_reducible refine Kd.C_drewN ?_ _) | (with_reducible refine Kd.C_drew ?_)))
             (case side2 => exact HC379_1.out)
             (case side3 => repeat (first | exact (by repeat (first | (with_reducible exact HR380_1.out) | (with_reducible refine Kd.C_alloc ?_ _) | (with_reducible refine Kd.C_drewN ?_ _) | (with_reducible refine Kd.C_drew ?_) | exact HR380_1.out)) | (with_reducible refine Kd.C_alloc ?_ _) | (with_reducible refine Kd.C_drewN ?_ _) | (with_reducible refine Kd.C_drew ?_)))
             (case side4 => exact HC380_1.out)
             rintro e w' ⟨rfl, ⟨nd, rfl⟩⟩
             refine ⟨_, rfl, ?_⟩
             refine hK.out _ _ ⟨hHeld.1, hHeld.2.1, hHeld.2.2.1, hHeld.2.2.2.1, hHeld.2.2.2.2.1, hHeld.2.2.2.2.2.1, hHeld.2.2.2.2.2.2.1, hHeld.2.2.2.2.2.2.2.1, hHeld.2.2.2.2.2.2.2.2.1, hHeld.2.2.2.2.2.2.2.2.2.1, hHeld.2.2.2.2.2.2.2.2.2.2.1, hHeld.2.2.2.2.2.2.2.2.2.2.2.1, hHeld.2.2.2.2.2.2.2.2.2.2.2.2.1, hHeld.2.2.2.2.2.2.2.2.2.2.2.2.2.1, hHeld.2.2.2.2.2.2.2.2.2.2.2.2.2.2.1, hHeld.2.2.2.2.2.2.2.2.2.2.2.2.2.2.2.1, hHeld.2.2.2.2.2.2.2.2.2.2.2.2.2.2.2.2.1, hHeld.2.2.2.2.2.2.2.2.2.2.2.2.2.2.2.2.2.1, hHeld.2.2.2.2.2.2.2.2.2.2.2.2.2.2.2.2.2.2.1, hHeld.2.2.2.2.2.2.2.2.2.2.2.2.2.2.2.2.2.2.2.1, hHeld.2.2.2.2.2.2.2.2.2.2.2.2.2.2.2.2.2.2.2.2.1, hHeld.2.2.2.2.2.2.2.2.2.2.2.2.2.2.2.2.2.2.2.2.2.1, hHeld.2.2.2.2.2.2.2.2.2.2.2.2.2.2.2.2.2.2.2.2.2.2.1, hHeld.2.2.2.2.2.2.2.2.2.2.2.2.2.2.2.2.2.2.2.2.2.2.2.1, hHeld.2.2.2.2.2.2.2.2.2.2.2.2.2.2.2.2.2.2.2.2.2.2.2.2.1, hHeld.2.2.2.2.2.2.2.2.2.2.2.2.2.2.2.2.2.2.2.2.2.2.2.2.2.1, hHeld.2.2.2.2.2.2.2.2.2.2.2.2.2.2.2.2.2.2.2.2.2.2.2.2.2.2.1, hHeld.2.2.2.2.2.2.2.2.2.2.2.2.2.2.2.2.2.2.2.2.2.2.2.2.2.2.2.1, hHeld.2.2.2.2.2.2.2.2.2.2.2.2.2.2.2.2.2.2.2.2.2.2.2.2.2.2.2.2.1, hHeld.2.2.2.2.2.2.2.2.2.2.2.2.2.2.2.2.2.2.2.2.2.2.2.2.2.2.2.2.2.1, hHeld.2.2.2.2.2.2.2.2.2.2.2.2.2.2.2.2.2.2.2.2.2.2.2.2.2.2.2.2.2.2.1, hHeld.2.2.2.2.2.2.2.2.2.2.2.2.2.2.2.2.2.2.2.2.2.2.2.2.2.2.2.2.2.2.2⟩ (fun hHeld => ?_)
             clear hK K
             refine norm_ (a' := ?_) ?_ ?_
             rotate_left
             · show Act.put _ (some 69) _ = _
               simp only [Act.put, List.setIfInBounds_toArray, List.set_cons_zero, List.set_cons_succ, i64_w, i32_w]
               rfl
             refine pure_ (i := 23) (N := some 70) (v := ?_) (a' := ?_) #[true, true, true, true, true, true, true, true, true, true, true, true, true, true, true, true, true, true, true, true, true, true, true, true, false, false, false, false, false, false, false, false, false, false, false, false, false, false, false, false, false, false, false, false, false, false, false, false, false, false, false, false, false] rfl rfl (any_of HT_.out (by kernel_rfl)) (fun _ _ _ h => h) (Or.inl ⟨by rfl, ?_⟩) ?_ ?_
             rotate_left
             · intro w'
               go_simp
               with_reducible rfl
             rotate_left
             · simp only [Act.put, List.setIfInBounds_toArray, List.set_cons_zero, List.set_cons_succ, i64_w, i32_w]
               rfl
             refine pure_ (i := 24) (N := some 71) (v := ?_) (a' := ?_) #[true, true, true, true, true, true, true, true, true, true, true, true, true, true, true, true, true, true, true, true, true, true, true, true, true, false, false, false, false, false, false, false, false, false, false, false, false, false, false, false, false, false, false, false, false, false, false, false, false, false, false, false, false] rfl rfl (any_of HT_.out (by kernel_rfl)) (fun _ _ _ h => h) (Or.inl ⟨by rfl, ?_⟩) ?_ ?_
             rotate_left
             · intro w'
               go_simp
               with_reducible rfl
             rotate_left
             · simp only [Act.put, List.setIfInBounds_toArray, List.set_cons_zero, List.set_cons_succ, i64_w, i32_w]
               rfl
             refine pure_ (i := 25) (N := some 72) (v := ?_) (a' := ?_) #[true, true, true, true, true, true, true, true, true, true, true, true, true, true, true, true, true, true, true, true, true, true, true, true, true, true, false, false, false, false, false, false, false, false, false, false, false, false, false, false, false, false, false, false, false, false, false, false, false, false, false, false, false] rfl rfl (any_of HT_.out (by kernel_rfl)) (fun _ _ _ h => h) (Or.inl ⟨by rfl, ?_⟩) ?_ ?_
             rotate_left
             · intro w'
               go_simp
               with_reducible rfl
             rotate_left
             · simp only [Act.put, List.setIfInBounds_toArray, List.set_cons_zero, List.set_cons_succ, i64_w, i32_w]
               rfl
             refine pure_ (i := 26) (N := some 73) (v := ?_) (a' := ?_) #[true, true, true, true, true, true, true, true, true, true, true, true, true, true, true, true, true, true, true, true, true, true, true, true, true, true, true, false, false, false, false, false, false, false, false, false, false, false, false, false, false, false, false, false, false, false, false, false, false, false, false, false, false] rfl rfl (any_of HT_.out (by kernel_rfl)) (fun _ _ _ h => h) (Or.inl ⟨by rfl, ?_⟩) ?_ ?_
             rotate_left
             · intro w'
               go_simp
               with_reducible rfl
             rotate_left
             · simp only [Act.put, List.setIfInBounds_toArray, List.set_cons_zero, List.set_cons_succ, i64_w, i32_w]
               rfl
             refine pure_ (i := 27) (N := some 74) (v := ?_) (a' := ?_) #[true, true, true, true, true, true, true, true, true, true, true, true, true, true, true, true, true, true, true, true, true, true, true, true, true, true, true, true, false, false, false, false, false, false, false, false, false, false, false, false, false, false, false, false, false, false, false, false, false, false, false, false, false] rfl rfl (any_of HT_.out (by kernel_rfl)) (fun _ _ _ h => h) (Or.inl ⟨by rfl, ?_⟩) ?_ ?_
             rotate_left
             · intro w'
               go_simp
               with_reducible rfl
             rotate_left
             · simp only [Act.put, List.setIfInBounds_toArray, List.set_cons_zero, List.set_cons_succ, i64_w, i32_w]
               rfl
             refine pure_ (i := 28) (N := some 75) (v := ?_) (a' := ?_) #[true, true, true, true, true, true, true, true, true, true, true, true, true, true, true, true, true, true, true, true, true, true, true, true, true, true, true, true, true, false, false, false, false, false, false, false, false, false, false, false, false, false, false, false, false, false, false, false, false, false, false, false, false] rfl rfl (any_of HT_.out (by kernel_rfl)) (fun _ _ _ h => h) (Or.inl ⟨by rfl, ?_⟩) ?_ ?_
             rotate_left
             · intro w'
               go_simp
               with_reducible rfl
             rotate_left
             · simp only [Act.put, List.setIfInBounds_toArray, List.set_cons_zero, List.set_cons_succ, i64_w, i32_w]
               rfl
             refine pure_ (i := 29) (N := some 76) (v := ?_) (a' := ?_) #[true, true, true, true, true, true, true, true, true, true, true, true, true, true, true, true, true, true, true, true, true, true, true, true, true, true, true, true, true, true, false, false, false, false, false, false, false, false, false, false, false, false, false, false, false, false, false, false, false, false, false, false, false] rfl rfl (any_of HT_.out (by kernel_rfl)) (fun _ _ _ h => h) (Or.inl ⟨by rfl, ?_⟩) ?_ ?_
             rotate_left
             · intro w'
               go_simp
               with_reducible rfl
             rotate_left
             · simp only [Act.put, List.setIfInBounds_toArray, List.set_cons_zero, List.set_cons_succ, i64_w, i32_w]
               rfl
             refine pure_ (i := 31) (N := some 78) (v := ?_) (a' := ?_) #[true, true, true, true, true, true, true, true, true, true, true, true, true, true, true, true, true, true, true, true, true, true, true, true, true, true, true, true, true, true, false, true, false, false, false, false, false, false, false, false, false, false, false, false, false, false, false, false, false, false, false, false, false] rfl rfl (any_of HT_.out (by kernel_rfl)) (fun _ _ _ h => h) (Or.inl ⟨by rfl, ?_⟩) ?_ ?_
             rotate_left
             · intro w'
               go_simp
               with_reducible rfl
             rotate_left
             · simp only [Act.put, List.setIfInBounds_toArray, List.set_cons_zero, List.set_cons_succ, i64_w, i32_w]
               rfl
             refine pure_ (i := 32) (N := some 79) (v := ?_) (a' := ?_) #[true, true, true, true, true, true, true, true, true, true, true, true, true, true, true, true, true, true, true, true, true, true, true, true, true, true, true, true, true, true, false, true, true, false, false, false, false, false, false, false, false, false, false, false, false, false, false, false, false, false, false, false, false] rfl rfl (any_of HT_.out (by kernel_rfl)) (fun _ _ _ h => h) (Or.inl ⟨by rfl, ?_⟩) ?_ ?_
             rotate_left
             · intro w'
               go_simp
               with_reducible rfl
             rotate_left
             · simp only [Act.put, List.setIfInBounds_toArray, List.set_cons_zero, List.set_cons_succ, i64_w, i32_w]
               rfl
             refine pure_ (i := 33) (N := some 80) (v := ?_) (a' := ?_) #[true, true, true, true, true, true, true, true, true, true, true, true, true, true, true, true, true, true, true, true, true, true, true, true, true, true, true, true, true, true, false, true, true, true, false, false, false, false, false, false, false, false, false, false, false, false, false, false, false, false, false, false, false] rfl rfl (any_of HT_.out (by kernel_rfl)) (fun _ _ _ h => h) (Or.inl ⟨by rfl, ?_⟩) ?_ ?_
             rotate_left
             · intro w'
               go_simp
               with_reducible rfl
             rotate_left
             · simp only [Act.put, List.setIfInBounds_toArray, List.set_cons_zero, List.set_cons_succ, i64_w, i32_w]
               rfl
             refine pure_ (i := 34) (N := some 81) (v := ?_) (a' := ?_) #[true, true, true, true, true, true, true, true, true, true, true, true, true, true, true, true, true, true, true, true, true, true, true, true, true, true, true, true, true, true, false, true, true, true, true, false, false, false, false, false, false, false, false, false, false, false, false, false, false, false, false, false, false] rfl rfl (any_of HT_.out (by kernel_rfl)) (fun _ _ _ h => h) (Or.inl ⟨by rfl, ?_⟩) ?_ ?_
             rotate_left
             · intro w'
               go_simp
               with_reducible rfl
             rotate_left
             · simp only [Act.put, List.setIfInBounds_toArray, List.set_cons_zero, List.set_cons_succ, i64_w, i32_w]
               rfl
             refine take_ (i := 30) (N := some 77) (v := ?_) (a' := ?_) #[true, true, true, true, true, true, true, true, true, true, true, true, true, true, true, true, true, true, true, true, true, true, true, true, true, true, true, true, true, true, true, true, true, true, true, false, false, false, false, false, false, false, false, false, false, false, false, false, false, false, false, false, false] rfl rfl (take_ofW HT_.out HW_.out (by kernel_rfl)) (fun _ _ _ h => h) (Or.inl ⟨by rfl, ?_⟩) hHeld ?_ ?_
             rotate_left
             · rintro w' ⟨s0, s1, s2, s3, s4, s5, s6, s7, s8, s9, s10, s11, s12, s13, s14, s15, s16, s17, s18, s19, s20, s21, s22, s23, s24, s25, s26, s27, s28, s29, s30, s31⟩
               go_simp
               with_reducible rfl
             rotate_left
             · simp only [Act.put, List.setIfInBounds_toArray, List.set_cons_zero, List.set_cons_succ, i64_w, i32_w]
               rfl
             refine take_ (i := 35) (N := some 82) (v := ?_) (a' := ?_) #[true, true, true, true, true, true, true, true, true, true, true, true, true, true, true, true, true, true, true, true, true, true, true, true, true, true, true, true, true, true, true, true, true, true, true, true, false, false, false, false, false, false, false, false, false, false, false, false, false, false, false, false, false] rfl rfl (take_ofW HT_.out HW_.out (by kernel_rfl)) (fun _ _ _ h => h) (Or.inl ⟨by rfl, ?_⟩) hHeld ?_ ?_
             rotate_left
             · rintro w' ⟨s0, s1, s2, s3, s4, s5, s6, s7, s8, s9, s10, s11, s12, s13, s14, s15, s16, s17, s18, s19, s20, s21, s22, s23, s24, s25, s26, s27, s28, s29, s30, s31⟩
               go_simp
               with_reducible rfl
             rotate_left
             · simp only [Act.put, List.setIfInBounds_toArray, List.set_cons_zero, List.set_cons_succ, i64_w, i32_w]
               rfl
             refine one_ (i := 36) (N := some 83) #[true, true, true, true, true, true, true, true, true, true, true, true, true, true, true, true, true, true, true, true, true, true, true, true, true, true, true, true, true, true, true, true, true, true, true, true, true, false, false, false, false, false, false, false, false, false, false, false, false, false, false, false, false] rfl rfl (one_of HT_.out (by kernel_rfl)) (by decide) (fun K hK => ?_)
             refine goes_ Tryd.func13 (by kernel_rfl) rfl #[.slice A377_2 ((rd_T32 t360 x10_2).f2).length c377_2, .slice A378_2 ((rd_T33 t373 x10_2).f2).length c378_2] (by rfl) rfl rfl (by (try simp only [List.map_toArray, List.map_cons, List.map_nil]); first | done | rfl | (simp only [List.length_drop, List.length_take]; rfl)) ?_
             with_reducible refine (pollardref19_Same.calls k2 _ _ ((rd_T32 t360 x10_2).f2) _ _ ((rd_T33 t373 x10_2).f2) true _ ?side1 ?side2 ?side3 ?side4 A42.out).mono ?_
             (case side1 => repeat (first | exact (by repeat (first | (with_reducible exact HR382_2.out) | (with_reducible refine Kd.C_alloc ?_ _) | (with_reducible refine Kd.C_drewN ?_ _) | (with_reducible refine Kd.C_drew ?_) | exact HR382_2.out)) | (with_reducible refine Kd.C_alloc ?_ _) | (with_reducible refine Kd.C_drewN ?_ _) | (with_reducible refine Kd.C_drew ?_)))
             (case side2 => exact HC382_2.out)
             (case side3 => repeat (first | exact (by repeat (first | (with_reducible exact HR383_2.out) | (with_reducible refine Kd.C_alloc ?_ _) | (with_reducible refine Kd.C_drewN ?_ _) | (with_reducible refine Kd.C_drew ?_) | exact HR383_2.out)) | (with_reducible refine Kd.C_alloc ?_ _) | (with_reducible refine Kd.C_drewN ?_ _) | (with_reducible refine Kd.C_drew ?_)))
             (case side4 => exact HC383_2.out)
             rintro e w' ⟨rfl, ⟨nd, rfl⟩⟩
             refine ⟨_, rfl, ?_⟩
             refine hK.out _ _ ⟨hHeld.1, hHeld.2.1, hHeld.2.2.1, hHeld.2.2.2.1, hHeld.2.2.2.2.1, hHeld.2.2.2.2.2.1, hHeld.2.2.2.2.2.2.1, hHeld.2.2.2.2.2.2.2.1, hHeld.2.2.2.2.2.2.2.2.1, hHeld.2.2.2.2.2.2.2.2.2.1, hHeld.2.2.2.2.2.2.2.2.2.2.1, hHeld.2.2.2.2.2.2.2.2.2.2.2.1, hHeld.2.2.2.2.2.2.2.2.2.2.2.2.1, hHeld.2.2.2.2.2.2.2.2.2.2.2.2.2.1, hHeld.2.2.2.2.2.2.2.2.2.2.2.2.2.2.1, hHeld.2.2.2.2.2.2.2.2.2.2.2.2.2.2.2.1, hHeld.2.2.2.2.2.2.2.2.2.2.2.2.2.2.2.2.1, hHeld.2.2.2.2.2.2.2.2.2.2.2.2.2.2.2.2.2.1, hHeld.2.2.2.2.2.2.2.2.2.2.2.2.2.2.2.2.2.2.1, hHeld.2.2.2.2.2.2.2.2.2.2.2.2.2.2.2.2.2.2.2.1, hHeld.2.2.2.2.2.2.2.2.2.2.2.2.2.2.2.2.2.2.2.2.1, hHeld.2.2.2.2.2.2.2.2.2.2.2.2.2.2.2.2.2.2.2.2.2.1, hHeld.2.2.2.2.2.2.2.2.2.2.2.2.2.2.2.2.2.2.2.2.2.2.1, hHeld.2.2.2.2.2.2.2.2.2.2.2.2.2.2.2.2.2.2.2.2.2.2.2.1, hHeld.2.2.2.2.2.2.2.2.2.2.2.2.2.2.2.2.2.2.2.2.2.2.2.2.1, hHeld.2.2.2.2.2.2.2.2.2.2.2.2.2.2.2.2.2.2.2.2.2.2.2.2.2.1, hHeld.2.2.2.2.2.2.2.2.2.2.2.2.2.2.2.2.2.2.2.2.2.2.2.2.2.2.1, hHeld.2.2.2.2.2.2.2.2.2.2.2.2.2.2.2.2.2.2.2.2.2.2.2.2.2.2.2.1, hHeld.2.2.2.2.2.2.2.2.2.2.2.2.2.2.2.2.2.2.2.2.2.2.2.2.2.2.2.2.1, hHeld.2.2.2.2.2.2.2.2.2.2.2.2.2.2.2.2.2.2.2.2.2.2.2.2.2.2.2.2.2.1, hHeld.2.2.2.2.2.2.2.2.2.2.2.2.2.2.2.2.2.2.2.2.2.2.2.2.2.2.2.2.2.2.1, hHeld.2.2.2.2.2.2.2.2.2.2.2.2.2.2.2.2.2.2.2.2.2.2.2.2.2.2.2.2.2.2.2⟩ (fun hHeld => ?_)
             clear hK K
             refine norm_ (a' := ?_) ?_ ?_
             rotate_left
             · show Act.put _ (some 83) _ = _
               simp only [Act.put, List.setIfInBounds_toArray, List.set_cons_zero, List.set_cons_succ, i64_w, i32_w]
               rfl
             refine pure_ (i := 37) (N := some 84) (v := ?_) (a' := ?_) #[true, true, true, true, true, true, true, true, true, true, true, true, true, true, true, true, true, true, true, true, true, true, true, true, true, true, true, true, true, true, true, true, true, true, true, true, true, true, false, false, false, false, false, false, false, false, false, false, false, false, false, false, false] rfl rfl (any_of HT_.out (by kernel_rfl)) (fun _ _ _ h => h) (Or.inl ⟨by rfl, ?_⟩) ?_ ?_
             rotate_left
             · intro w'
               go_simp
               with_reducible rfl
             rotate_left
             · simp only [Act.put, List.setIfInBounds_toArray, List.set_cons_zero, List.set_cons_succ, i64_w, i32_w]
               rfl
             refine pure_ (i := 38) (N := some 85) (v := ?_) (a' := ?_) #[true, true, true, true, true, true, true, true, true, true, true, true, true, true, true, true, true, true, true, true, true, true, true, true, true, true, true, true, true, true, true, true, true, true, true, true, true, true, true, false, false, false, false, false, false, false, false, false, false, false, false, false, false] rfl rfl (any_of HT_.out (by kernel_rfl)) (fun _ _ _ h => h) (Or.inl ⟨by rfl, ?_⟩) ?_ ?_
             rotate_left
             · intro w'
               go_simp
               with_reducible rfl
             rotate_left
             · simp only [Act.put, List.setIfInBounds_toArray, List.set_cons_zero, List.set_cons_succ, i64_w, i32_w]
               rfl
             refine pure_ (i := 39) (N := some 86) (v := ?_) (a' := ?_) #[true, true, true, true, true, true, true, true, true, true, true, true, true, true, true, true, true, true, true, true, true, true, true, true, true, true, true, true, true, true, true, true, true, true, true, true, true, true, true, true, false, false, false, false, false, false, false, false, false, false, false, false, false] rfl rfl (any_of HT_.out (by kernel_rfl)) (fun _ _ _ h => h) (Or.inl ⟨by rfl, ?_⟩) ?_ ?_
             rotate_left
             · intro w'
               go_simp
               with_reducible rfl
             rotate_left
             · simp only [Act.put, List.setIfInBounds_toArray, List.set_cons_zero, List.set_cons_succ, i64_w, i32_w]
               rfl
             refine pure_ (i := 40) (N := some 87) (v := ?_) (a' := ?_) #[true, true, true, true, true, true, true, true, true, true, true, true, true, true, true, true, true, true, true, true, true, true, true, true, true, true, true, true, true, true, true, true, true, true, true, true, true, true, true, true, true, false, false, false, false, false, false, false, false, false, false, false, false] rfl rfl (any_of HT_.out (by kernel_rfl)) (fun _ _ _ h => h) (Or.inl ⟨by rfl, ?_⟩) ?_ ?_
             rotate_left
             · intro w'
               go_simp
               with_reducible rfl
             rotate_left
             · simp only [Act.put, List.setIfInBounds_toArray, List.set_cons_zero, List.set_cons_succ, i64_w, i32_w]
               rfl
             refine pure_ (i := 41) (N := some 88) (v := ?_) (a' := ?_) #[true, true, true, true, true, true, true, true, true, true, true, true, true, true, true, true, true, true, true, true, true, true, true, true, true, true, true, true, true, true, true, true, true, true, true, true, true, true, true, true, true, true, false, false, false, false, false, false, false, false, false, false, false] rfl rfl (any_of HT_.out (by kernel_rfl)) (fun _ _ _ h => h) (Or.inl ⟨by rfl, ?_⟩) ?_ ?_
             rotate_left
             · intro w'
               go_simp
               with_reducible rfl
             rotate_left
             · simp only [Act.put, List.setIfInBounds_toArray, List.set_cons_zero, List.set_cons_succ, i64_w, i32_w]
               rfl
             refine pure_ (i := 42) (N := some 89) (v := ?_) (a' := ?_) #[true, true, true, true, true, true, true, true, true, true, true, true, true, true, true, true, true, true, true, true, true, true, true, true, true, true, true, true, true, true, true, true, true, true, true, true, true, true, true, true, true, true, true, false, false, false, false, false, false, false, false, false, false] rfl rfl (any_of HT_.out (by kernel_rfl)) (fun _ _ _ h => h) (Or.inl ⟨by rfl, ?_⟩) ?_ ?_
             rotate_left
             · intro w'
               go_simp
               with_reducible rfl
             rotate_left
             · simp only [Act.put, List.setIfInBounds_toArray, List.set_cons_zero, List.set_cons_succ, i64_w, i32_w]
               rfl
             refine pure_ (i := 43) (N := some 90) (v := ?_) (a' := ?_) #[true, true, true, true, true, true, true, true, true, true, true, true, true, true, true, true, true, true, true, true, true, true, true, true, true, true, true, true, true, true, true, true, true, true, true, true, true, true, true, true, true, true, true, true, false, false, false, false, false, false, false, false, false] rfl rfl (any_of HT_.out (by kernel_rfl)) (fun _ _ _ h => h) (Or.inl ⟨by rfl, ?_⟩) ?_ ?_
             rotate_left
             · intro w'
               go_simp
               with_reducible rfl
             rotate_left
             · simp only [Act.put, List.setIfInBounds_toArray, List.set_cons_zero, List.set_cons_succ, i64_w, i32_w]
               rfl
             refine pure_ (i := 45) (N := some 92) (v := ?_) (a' := ?_) #[true, true, true, true, true, true, true, true, true, true, true, true, true, true, true, true, true, true, true, true, true, true, true, true, true, true, true, true, true, true, true, true, true, true, true, true, true, true, true, true, true, true, true, true, false, true, false, false, false, false, false, false, false] rfl rfl (any_of HT_.out (by kernel_rfl)) (fun _ _ _ h => h) (Or.inl ⟨by rfl, ?_⟩) ?_ ?_
             rotate_left
             · intro w'
               go_simp
               with_reducible rfl
             rotate_left
             · simp only [Act.put, List.setIfInBounds_toArray, List.set_cons_zero, List.set_cons_succ, i64_w, i32_w]
               rfl
             refine pure_ (i := 46) (N := some 93) (v := ?_) (a' := ?_) #[true, true, true, true, true, true, true, true, true, true, true, true, true, true, true, true, true, true, true, true, true, true, true, true, true, true, true, true, true, true, true, true, true, true, true, true, true, true, true, true, true, true, true, true, false, true, true, false, false, false, false, false, false] rfl rfl (any_of HT_.out (by kernel_rfl)) (fun _ _ _ h => h) (Or.inl ⟨by rfl, ?_⟩) ?_ ?_
             rotate_left
             · intro w'
               go_simp
               with_reducible rfl
             rotate_left
             · simp only [Act.put, List.setIfInBounds_toArray, List.set_cons_zero, List.set_cons_succ, i64_w, i32_w]
               rfl
             refine pure_ (i := 47) (N := some 94) (v := ?_) (a' := ?_) #[true, true, true, true, true, true, true, true, true, true, true, true, true, true, true, true, true, true, true, true, true, true, true, true, true, true, true, true, true, true, true, true, true, true, true, true, true, true, true, true, true, true, true, true, false, true, true, true, false, false, false, false, false] rfl rfl (any_of HT_.out (by kernel_rfl)) (fun _ _ _ h => h) (Or.inl ⟨by rfl, ?_⟩) ?_ ?_
             rotate_left
             · intro w'
               go_simp
               with_reducible rfl
             rotate_left
             · simp only [Act.put, List.setIfInBounds_toArray, List.set_cons_zero, List.set_cons_succ, i64_w, i32_w]
               rfl
             refine pure_ (i := 48) (N := some 95) (v := ?_) (a' := ?_) #[true, true, true, true, true, true, true, true, true, true, true, true, true, true, true, true, true, true, true, true, true, true, true, true, true, true, true, true, true, true, true, true, true, true, true, true, true, true, true, true, true, true, true, true, false, true, true, true, true, false, false, false, false] rfl rfl (any_of HT_.out (by kernel_rfl)) (fun _ _ _ h => h) (Or.inl ⟨by rfl, ?_⟩) ?_ ?_
             rotate_left
             · intro w'
               go_simp
               with_reducible rfl
             rotate_left
             · simp only [Act.put, List.setIfInBounds_toArray, List.set_cons_zero, List.set_cons_succ, i64_w, i32_w]
               rfl
             refine take_ (i := 44) (N := some 91) (v := ?_) (a' := ?_) #[true, true, true, true, true, true, true, true, true, true, true, true, true, true, true, true, true, true, true, true, true, true, true, true, true, true, true, true, true, true, true, true, true, true, true, true, true, true, true, true, true, true, true, true, true, true, true, true, true, false, false, false, false] rfl rfl (take_ofW HT_.out HW_.out (by kernel_rfl)) (fun _ _ _ h => h) (Or.inl ⟨by rfl, ?_⟩) hHeld ?_ ?_
             rotate_left
             · rintro w' ⟨s0, s1, s2, s3, s4, s5, s6, s7, s8, s9, s10, s11, s12, s13, s14, s15, s16, s17, s18, s19, s20, s21, s22, s23, s24, s25, s26, s27, s28, s29, s30, s31⟩
               go_simp
               with_reducible rfl
             rotate_left
             · simp only [Act.put, List.setIfInBounds_toArray, List.set_cons_zero, List.set_cons_succ, i64_w, i32_w]
               rfl
             refine take_ (i := 49) (N := some 96) (v := ?_) (a' := ?_) #[true, true, true, true, true, true, true, true, true, true, true, true, true, true, true, true, true, true, true, true, true, true, true, true, true, true, true, true, true, true, true, true, true, true, true, true, true, true, true, true, true, true, true, true, true, true, true, true, true, true, false, false, false] rfl rfl (take_ofW HT_.out HW_.out (by kernel_rfl)) (fun _ _ _ h => h) (Or.inl ⟨by rfl, ?_⟩) hHeld ?_ ?_
             rotate_left
             · rintro w' ⟨s0, s1, s2, s3, s4, s5, s6, s7, s8, s9, s10, s11, s12, s13, s14, s15, s16, s17, s18, s19, s20, s21, s22, s23, s24, s25, s26, s27, s28, s29, s30, s31⟩
               go_simp
               with_reducible rfl
             rotate_left
             · simp only [Act.put, List.setIfInBounds_toArray, List.set_cons_zero, List.set_cons_succ, i64_w, i32_w]
               rfl
             refine one_ (i := 50) (N := some 97) #[true, true, true, true, true, true, true, true, true, true, true, true, true, true, true, true, true, true, true, true, true, true, true, true, true, true, true, true, true, true, true, true, true, true, true, true, true, true, true, true, true, true, true, true, true, true, true, true, true, true, true, false, false] rfl rfl (one_of HT_.out (by kernel_rfl)) (by decide) (fun K hK => ?_)
             refine goes_ Tryd.func13 (by kernel_rfl) rfl #[.slice A377_3 ((rd_T32 t360 x10_2).f3).length c377_3, .slice A378_3 ((rd_T33 t373 x10_2).f3).length c378_3] (by rfl) rfl rfl (by (try simp only [List.map_toArray, List.map_cons, List.map_nil]); first | done | rfl | (simp only [List.length_drop, List.length_take]; rfl)) ?_
             with_reducible refine (pollardref19_Same.calls k2 _ _ ((rd_T32 t360 x10_2).f3) _ _ ((rd_T33 t373 x10_2).f3) true _ ?side1 ?side2 ?side3 ?side4 A44.out).mono ?_
             (case side1 => repeat (first | exact (by repeat (first | (with_reducible exact HR385_3.out) | (with_reducible refine Kd.C_alloc ?_ _) | (with_reducible refine Kd.C_drewN ?_ _) | (with_reducible refine Kd.C_drew ?_) | exact HR385_3.out)) | (with_reducible refine Kd.C_alloc ?_ _) | (with_reducible refine Kd.C_drewN ?_ _) | (with_reducible refine Kd.C_drew ?_)))
             (case side2 => exact HC385_3.out)
             (case side3 => repeat (first | exact (by repeat (first | (with_reducible exact HR386_3.out) | (with_reducible refine Kd.C_alloc ?_ _) | (with_reducible refine Kd.C_drewN ?_ _) | (with_reducible refine Kd.C_drew ?_) | exact HR386_3.out)) | (with_reducible refine Kd.C_alloc ?_ _) | (with_reducible refine Kd.C_drewN ?_ _) | (with_reducible refine Kd.C_drew ?_)))
             (case side4 => exact HC386_3.out)
             rintro e w' ⟨rfl, ⟨nd, rfl⟩⟩
             refine ⟨_, rfl, ?_⟩
             refine hK.out _ _ ⟨hHeld.1, hHeld.2.1, hHeld.2.2.1, hHeld.2.2.2.1, hHeld.2.2.2.2.1, hHeld.2.2.2.2.2.1, hHeld.2.2.2.2.2.2.1, hHeld.2.2.2.2.2.2.2.1, hHeld.2.2.2.2.2.2.2.2.1, hHeld.2.2.2.2.2.2.2.2.2.1, hHeld.2.2.2.2.2.2.2.2.2.2.1, hHeld.2.2.2.2.2.2.2.2.2.2.2.1, hHeld.2.2.2.2.2.2.2.2.2.2.2.2.1, hHeld.2.2.2.2.2.2.2.2.2.2.2.2.2.1, hHeld.2.2.2.2.2.2.2.2.2.2.2.2.2.2.1, hHeld.2.2.2.2.2.2.2.2.2.2.2.2.2.2.2.1, hHeld.2.2.2.2.2.2.2.2.2.2.2.2.2.2.2.2.1, hHeld.2.2.2.2.2.2.2.2.2.2.2.2.2.2.2.2.2.1, hHeld.2.2.2.2.2.2.2.2.2.2.2.2.2.2.2.2.2.2.1, hHeld.2.2.2.2.2.2.2.2.2.2.2.2.2.2.2.2.2.2.2.1, hHeld.2.2.2.2.2.2.2.2.2.2.2.2.2.2.2.2.2.2.2.2.1, hHeld.2.2.2.2.2.2.2.2.2.2.2.2.2.2.2.2.2.2.2.2.2.1, hHeld.2.2.2.2.2.2.2.2.2.2.2.2.2.2.2.2.2.2.2.2.2.2.1, hHeld.2.2.2.2.2.2.2.2.2.2.2.2.2.2.2.2.2.2.2.2.2.2.2.1, hHeld.2.2.2.2.2.2.2.2.2.2.2.2.2.2.2.2.2.2.2.2.2.2.2.2.1, hHeld.2.2.2.2.2.2.2.2.2.2.2.2.2.2.2.2.2.2.2.2.2.2.2.2.2.1, hHeld.2.2.2.2.2.2.2.2.2.2.2.2.2.2.2.2.2.2.2.2.2.2.2.2.2.2.1, hHeld.2.2.2.2.2.2.2.2.2.2.2.2.2.2.2.2.2.2.2.2.2.2.2.2.2.2.2.1, hHeld.2.2.2.2.2.2.2.2.2.2.2.2.2.2.2.2.2.2.2.2.2.2.2.2.2.2.2.2.1, hHeld.2.2.2.2.2.2.2.2.2.2.2.2.2.2.2.2.2.2.2.2.2.2.2.2.2.2.2.2.2.1, hHeld.2.2.2.2.2.2.2.2.2.2.2.2.2.2.2.2.2.2.2.2.2.2.2.2.2.2.2.2.2.2.1, hHeld.2.2.2.2.2.2.2.2.2.2.2.2.2.2.2.2.2.2.2.2.2.2.2.2.2.2.2.2.2.2.2⟩ (fun hHeld => ?_)
             clear hK K
             refine norm_ (a' := ?_) ?_ ?_
             rotate_left
             · show Act.put _ (some 97) _ = _
               simp only [Act.put, List.setIfInBounds_toArray, List.set_cons_zero, List.set_cons_succ, i64_w, i32_w]
               rfl
             refine pure_ (i := 51) (N := some 98) (v := ?_) (a' := ?_) #[true, true, true, true, true, true, true, true, true, true, true, true, true, true, true, true, true, true, true, true, true, true, true, true, true, true, true, true, true, true, true, true, true, true, true, true, true, true, true, true, true, true, true, true, true, true, true, true, true, true, true, true, false] rfl rfl (any_of HT_.out (by kernel_rfl)) (fun _ _ _ h => h) (Or.inl ⟨by rfl, ?_⟩) ?_ ?_
             rotate_left
             · intro w'
               go_simp
               with_reducible rfl
             rotate_left
             · simp only [Act.put, List.setIfInBounds_toArray, List.set_cons_zero, List.set_cons_succ, i64_w, i32_w]
               rfl
             refine pure_ (i := 52) (N := some 99) (v := ?_) (a' := ?_) #[true, true, true, true, true, true, true, true, true, true, true, true, true, true, true, true, true, true, true, true, true, true, true, true, true, true, true, true, true, true, true, true, true, true, true, true, true, true, true, true, true, true, true, true, true, true, true, true, true, true, true, true, true] rfl rfl (any_of HT_.out (by kernel_rfl)) (fun _ _ _ h => h) (Or.inl ⟨by rfl, ?_⟩) ?_ ?_
             rotate_left
             · intro w'
               go_simp
               with_reducible rfl
             rotate_left
             · simp only [Act.put, List.setIfInBounds_toArray, List.set_cons_zero, List.set_cons_succ, i64_w, i32_w]
               rfl
             refine done_ (done_of HT_.out (by kernel_rfl)) ?_
             try go_wp2
             go_roundg k2
             case measure => have := HJ11.out; have := HK2.out; omega
             case rel => exact ⟨(wrap64 (x10_2 + 1)), (by first | rfl | (simp; done) | (simp [*]; done)), H', ⟨by have := HJ11.out; have := HK2.out; omega⟩, ⟨by (with_reducible repeat (first | apply Kd.N_alloc | apply Kd.N_drewN | apply Kd.N_drew)); exact HO_7.out⟩, ⟨by (with_reducible repeat (first | apply Kd.N_alloc | apply Kd.N_drewN | apply Kd.N_drew)); exact HO_9.out⟩, ⟨by repeat (first | (with_reducible first | exact HB.out | apply below_alloc | apply pw_below_drewN | apply below_drew1) | exact HB.out)⟩⟩
            · replace c45 := Bool.eq_false_iff.mpr c45
              subst c45
              have H1 : (none) = some r := by rw [if_neg (show ¬ (false = true) by decide)] at H; exact H
              clear H
              have H := H1
              clear H1
              exact absurd H (by simp)
           · replace c43 := Bool.eq_false_iff.mpr c43
             subst c43
             have H1 : (none) = some r := by rw [if_neg (show ¬ (false = true) by decide)] at H; exact H
             clear H
             have H := H1
             clear H1
             exact absurd H (by simp)
          · replace c41 := Bool.eq_false_iff.mpr c41
            subst c41
            have H1 : (none) = some r := by rw [if_neg (show ¬ (false = true) by decide)] at H; exact H
            clear H
            have H := H1
            clear H1
            exact absurd H (by simp)
         · rw [if_neg c39] at H
           have c39b0 : (((rd_T32 t360 x10_2).f0) == ((rd_T33 t373 x10_2).f0)) = false := beq_eq_false_iff_ne.mpr c39
           have c39b1 : (((rd_T32 t360 x10_2).f0) != ((rd_T33 t373 x10_2).f0)) = true := bne_iff_ne.mpr c39
           exact absurd H (by simp)
        · rw [if_neg c38] at H
          exact absurd H (by simp)
       · rw [if_neg c37] at H
         exact absurd H (by simp)
      · rw [if_neg c36] at H
        have c36b0 : decide (x10_2 < (t373.length : Int)) = false := decide_eq_false c36
        clear c36
        obtain rfl := Option.some.inj H
        obtain ⟨Ao49, co49, eo49⟩ := Kd.N_slice HO_9.out
        subst eo49
        go_wp2
        go_ret
        exact ⟨by first | rfl | (simp [errW_none, errW_some] <;> rfl) | (simp [*, errW_none, errW_some] <;> rfl), by repeat (first | (with_reducible first | exact HB.out | apply below_alloc | apply pw_below_drewN | apply below_drew1) | exact HB.out)⟩

end Go.Proofs.YtfkajhppdeidjaaDoor.M
