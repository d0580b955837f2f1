/- The program's functions as plain functions, and that each call comes to what these tell; written by a program of this session, some contracts by hand. Conditions: none. -/
import Derived.Test.YtfkajhppdeidjaaDoorMx0
import Derived.Test.YtfkajhppdeidjaaDoorMx5
import Derived.Test.YtfkajhppdeidjaaDoorMx6
import Derived.Test.YtfkajhppdeidjaaDoorMx7
import Derived.Test.YtfkajhppdeidjaaDoorMx8
import Derived.Test.YtfkajhppdeidjaaDoorMx9
namespace Go.Proofs.YtfkajhppdeidjaaDoor.M
open Go.RowKit Go.Proofs.YtfkajhppdeidjaaDoorW.PrintWords Go.Proofs.YtfkajhppdeidjaaDoorW.PrintLast Go.Proofs.YtfkajhppdeidjaaDoorW.PrintMore
attribute [local go_sem] max2_int min2_int max_two min_two max_three min_three max_four min_four   -- for this text's walks alone
set_option linter.unusedVariables false
set_option linter.unusedSimpArgs false

/-! ### pollardlaw19_MergeTurned: function 6 -/
mutual
def pollardlaw19_MergeTurned.j0 : Nat → List (S32) → List (S32) → Bool → Option (Bool)
  | 0, _, _, _ => none
  | k + 1, x16, x18, x98 => if x98 = true then (none) else (pollardlaw19_MergeTurned.l0 k x16 x18 0)
def pollardlaw19_MergeTurned.l0 : Nat → List (S32) → List (S32) → Int → Option (Bool)
  | 0, _, _, _ => none
  | k + 1, x16, x18, x20 => if x20 < (x16.length : Int) then (if 0 ≤ x20 then (if ((rd_T32 x16 x20).f0) = 2 then (pollardlaw19_MergeTurned.j2 k x16 x18 x20 ((rd_T32 x16 x20).f0) true) else (pollardlaw19_MergeTurned.j2 k x16 x18 x20 ((rd_T32 x16 x20).f0) (((rd_T32 x16 x20).f0) == 3))) else (none)) else (some true)
def pollardlaw19_MergeTurned.j2 : Nat → List (S32) → List (S32) → Int → Int → Bool → Option (Bool)
  | 0, _, _, _, _, _ => none
  | k + 1, x16, x18, x20, x21, x115 => if x115 = true then (pollardlaw19_MergeTurned.j3 k x16 x18 x20 (wrap64 (5 - x21))) else (pollardlaw19_MergeTurned.j3 k x16 x18 x20 x21)
def pollardlaw19_MergeTurned.j3 : Nat → List (S32) → List (S32) → Int → Int → Option (Bool)
  | 0, _, _, _, _ => none
  | k + 1, x16, x18, x20, x21 => if 0 ≤ x20 then (if x20 < (x18.length : Int) then (if ((rd_T32 x18 x20).f0) = x21 then (if x20 < (x16.length : Int) then ((pollardref19_Same.f k ((rd_T32 x16 x20).f2) ((rd_T32 x18 x20).f3)).bind fun t254 => (if t254 = true then ((pollardref19_Same.f k ((rd_T32 x16 x20).f3) ((rd_T32 x18 x20).f2)).bind fun t257 => (if t257 = true then (pollardlaw19_MergeTurned.l0 k x16 x18 (wrap64 (x20 + 1))) else (none))) else (none))) else (none)) else (none)) else (none)) else (none)
end
def pollardlaw19_MergeTurned.f (k : Nat) (l0 : List ByteArray) (l1 : List ByteArray) (l2 : List ByteArray) : Option (Bool) := (pollardlaw19_text.f k l0).bind fun t214 => ((pollardlaw19_text.f k l1).bind fun t215 => ((pollardlaw19_text.f k l2).bind fun t216 => ((merge_Texts.f k t214 t215 t216).bind fun bt217 => ((merge_Texts.f k t214 t216 t215).bind fun bt220 => ((pollardlaw18_Cut.f l0).bind fun t223 => ((pollardlaw18_Cut.f l1).bind fun t226 => ((pollardlaw18_Cut.f l2).bind fun t229 => ((merge_Chunks.f k t223 t226 t229).bind fun bt232 => ((pollardlaw18_Cut.f l0).bind fun t236 => ((pollardlaw18_Cut.f l2).bind fun t239 => ((pollardlaw18_Cut.f l1).bind fun t242 => ((merge_Chunks.f k t236 t239 t242).bind fun bt245 => ((pollardlaw19_awake.f k).bind fun t249 => (if t249 = true then (if bt217.2.2 = 0 then (if bt220.2.2 = 0 then (if bt232.2 = 0 then (if bt245.2 = 0 then (if (bt217.2.1 != bt220.2.1) = true then (pollardlaw19_MergeTurned.j0 k bt232.1 bt245.1 true) else (if bt217.1.toList = bt220.1.toList then (pollardlaw19_MergeTurned.j0 k bt232.1 bt245.1 ((bt232.1.length : Int) != (bt245.1.length : Int))) else (pollardlaw19_MergeTurned.j0 k bt232.1 bt245.1 true))) else (pollardlaw19_MergeTurned.j0 k bt232.1 bt245.1 true)) else (pollardlaw19_MergeTurned.j0 k bt232.1 bt245.1 true)) else (pollardlaw19_MergeTurned.j0 k bt232.1 bt245.1 true)) else (pollardlaw19_MergeTurned.j0 k bt232.1 bt245.1 true)) else (pollardlaw19_MergeTurned.j0 k bt232.1 bt245.1 true)))))))))))))))
theorem pollardlaw19_MergeTurned.mono_l : ∀ k, (∀ y0 y1 y2, LeO (pollardlaw19_MergeTurned.j0 k y0 y1 y2) (pollardlaw19_MergeTurned.j0 (k + 1) y0 y1 y2)) ∧ (∀ y0 y1 y2, LeO (pollardlaw19_MergeTurned.l0 k y0 y1 y2) (pollardlaw19_MergeTurned.l0 (k + 1) y0 y1 y2)) ∧ (∀ y0 y1 y2 y3 y4, LeO (pollardlaw19_MergeTurned.j2 k y0 y1 y2 y3 y4) (pollardlaw19_MergeTurned.j2 (k + 1) y0 y1 y2 y3 y4)) ∧ (∀ y0 y1 y2 y3, LeO (pollardlaw19_MergeTurned.j3 k y0 y1 y2 y3) (pollardlaw19_MergeTurned.j3 (k + 1) y0 y1 y2 y3))
  | 0 => ⟨fun _ _ _ r h => by simp [pollardlaw19_MergeTurned.j0] at h, fun _ _ _ r h => by simp [pollardlaw19_MergeTurned.l0] at h, fun _ _ _ _ _ r h => by simp [pollardlaw19_MergeTurned.j2] at h, fun _ _ _ _ r h => by simp [pollardlaw19_MergeTurned.j3] at h⟩
  | k + 1 => by
    obtain ⟨ih0, ih1, ih2, ih3⟩ := pollardlaw19_MergeTurned.mono_l k
    refine ⟨?_, ?_, ?_, ?_⟩
    · intro y0 y1 y2
      unfold pollardlaw19_MergeTurned.j0
      repeat' first
      | (with_reducible exact ih0 _ _ _)
      | (with_reducible exact ih1 _ _ _)
      | (with_reducible exact ih2 _ _ _ _ _)
      | (with_reducible exact ih3 _ _ _ _)
      | (with_reducible exact merge_Chunks.mono _ _ _ _)
      | (with_reducible exact merge_Texts.mono _ _ _ _)
      | (with_reducible exact pollardlaw19_awake.mono _)
      | (with_reducible exact pollardlaw19_text.mono _ _)
      | (with_reducible exact pollardref19_Same.mono _ _ _)
      | (with_reducible exact LeO.refl _)
      | (with_reducible exact LeO.none _)
      | (with_reducible refine LeO.ite ?_ ?_)
      | (with_reducible refine LeO.bind ?_ (fun _ => ?_))
      | exact ih0 _ _ _
      | exact ih1 _ _ _
      | exact ih2 _ _ _ _ _
      | exact ih3 _ _ _ _
      | exact merge_Chunks.mono _ _ _ _
      | exact merge_Texts.mono _ _ _ _
      | exact pollardlaw19_awake.mono _
      | exact pollardlaw19_text.mono _ _
      | exact pollardref19_Same.mono _ _ _
      | exact LeO.none _
      | refine LeO.ite ?_ ?_
      | refine LeO.bind ?_ (fun _ => ?_)
    · intro y0 y1 y2
      unfold pollardlaw19_MergeTurned.l0
      repeat' first
      | (with_reducible exact ih0 _ _ _)
      | (with_reducible exact ih1 _ _ _)
      | (with_reducible exact ih2 _ _ _ _ _)
      | (with_reducible exact ih3 _ _ _ _)
      | (with_reducible exact merge_Chunks.mono _ _ _ _)
      | (with_reducible exact merge_Texts.mono _ _ _ _)
      | (with_reducible exact pollardlaw19_awake.mono _)
      | (with_reducible exact pollardlaw19_text.mono _ _)
      | (with_reducible exact pollardref19_Same.mono _ _ _)
      | (with_reducible exact LeO.refl _)
      | (with_reducible exact LeO.none _)
      | (with_reducible refine LeO.ite ?_ ?_)
      | (with_reducible refine LeO.bind ?_ (fun _ => ?_))
      | exact ih0 _ _ _
      | exact ih1 _ _ _
      | exact ih2 _ _ _ _ _
      | exact ih3 _ _ _ _
      | exact merge_Chunks.mono _ _ _ _
      | exact merge_Texts.mono _ _ _ _
      | exact pollardlaw19_awake.mono _
      | exact pollardlaw19_text.mono _ _
      | exact pollardref19_Same.mono _ _ _
      | exact LeO.none _
      | refine LeO.ite ?_ ?_
      | refine LeO.bind ?_ (fun _ => ?_)
    · intro y0 y1 y2 y3 y4
      unfold pollardlaw19_MergeTurned.j2
      repeat' first
      | (with_reducible exact ih0 _ _ _)
      | (with_reducible exact ih1 _ _ _)
      | (with_reducible exact ih2 _ _ _ _ _)
      | (with_reducible exact ih3 _ _ _ _)
      | (with_reducible exact merge_Chunks.mono _ _ _ _)
      | (with_reducible exact merge_Texts.mono _ _ _ _)
      | (with_reducible exact pollardlaw19_awake.mono _)
      | (with_reducible exact pollardlaw19_text.mono _ _)
      | (with_reducible exact pollardref19_Same.mono _ _ _)
      | (with_reducible exact LeO.refl _)
      | (with_reducible exact LeO.none _)
      | (with_reducible refine LeO.ite ?_ ?_)
      | (with_reducible refine LeO.bind ?_ (fun _ => ?_))
      | exact ih0 _ _ _
      | exact ih1 _ _ _
      | exact ih2 _ _ _ _ _
      | exact ih3 _ _ _ _
      | exact merge_Chunks.mono _ _ _ _
      | exact merge_Texts.mono _ _ _ _
      | exact pollardlaw19_awake.mono _
      | exact pollardlaw19_text.mono _ _
      | exact pollardref19_Same.mono _ _ _
      | exact LeO.none _
      | refine LeO.ite ?_ ?_
      | refine LeO.bind ?_ (fun _ => ?_)
    · intro y0 y1 y2 y3
      unfold pollardlaw19_MergeTurned.j3
      repeat' first
      | (with_reducible exact ih0 _ _ _)
      | (with_reducible exact ih1 _ _ _)
      | (with_reducible exact ih2 _ _ _ _ _)
      | (with_reducible exact ih3 _ _ _ _)
      | (with_reducible exact merge_Chunks.mono _ _ _ _)
      | (with_reducible exact merge_Texts.mono _ _ _ _)
      | (with_reducible exact pollardlaw19_awake.mono _)
      | (with_reducible exact pollardlaw19_text.mono _ _)
      | (with_reducible exact pollardref19_Same.mono _ _ _)
      | (with_reducible exact LeO.refl _)
      | (with_reducible exact LeO.none _)
      | (with_reducible refine LeO.ite ?_ ?_)
      | (with_reducible refine LeO.bind ?_ (fun _ => ?_))
      | exact ih0 _ _ _
      | exact ih1 _ _ _
      | exact ih2 _ _ _ _ _
      | exact ih3 _ _ _ _
      | exact merge_Chunks.mono _ _ _ _
      | exact merge_Texts.mono _ _ _ _
      | exact pollardlaw19_awake.mono _
      | exact pollardlaw19_text.mono _ _
      | exact pollardref19_Same.mono _ _ _
      | exact LeO.none _
      | refine LeO.ite ?_ ?_
      | refine LeO.bind ?_ (fun _ => ?_)
theorem pollardlaw19_MergeTurned.mono : ∀ a0 a1 a2 k, LeO (pollardlaw19_MergeTurned.f k a0 a1 a2) (pollardlaw19_MergeTurned.f (k + 1) a0 a1 a2) := by
  intro a0 a1 a2 k
  obtain ⟨ih0, ih1, ih2, ih3⟩ := pollardlaw19_MergeTurned.mono_l k
  unfold pollardlaw19_MergeTurned.f
  repeat' first
      | (with_reducible exact ih0 _ _ _)
      | (with_reducible exact ih1 _ _ _)
      | (with_reducible exact ih2 _ _ _ _ _)
      | (with_reducible exact ih3 _ _ _ _)
      | (with_reducible exact merge_Chunks.mono _ _ _ _)
      | (with_reducible exact merge_Texts.mono _ _ _ _)
      | (with_reducible exact pollardlaw19_awake.mono _)
      | (with_reducible exact pollardlaw19_text.mono _ _)
      | (with_reducible exact pollardref19_Same.mono _ _ _)
      | (with_reducible exact LeO.refl _)
      | (with_reducible exact LeO.none _)
      | (with_reducible refine LeO.ite ?_ ?_)
      | (with_reducible refine LeO.bind ?_ (fun _ => ?_))
      | exact ih0 _ _ _
      | exact ih1 _ _ _
      | exact ih2 _ _ _ _ _
      | exact ih3 _ _ _ _
      | exact merge_Chunks.mono _ _ _ _
      | exact merge_Texts.mono _ _ _ _
      | exact pollardlaw19_awake.mono _
      | exact pollardlaw19_text.mono _ _
      | exact pollardref19_Same.mono _ _ _
      | exact LeO.none _
      | refine LeO.ite ?_ ?_
      | refine LeO.bind ?_ (fun _ => ?_)
def pollardlaw19_MergeTurned.T14 : Bool × List (List Nat × List Nat) := (true, [([], []), ([], []), ([0, 1], [0, 1]), ([2], [2]), ([3], [3]), ([], []), ([4, 5], [4, 5]), ([6], [6]), ([7], [7]), ([7], [7]), ([8, 9, 7], [7, 8, 9]), ([10, 7], [7, 10]), ([11, 7], [7, 11]), ([7], [7]), ([7], [7]), ([13, 14, 7], [7, 13, 14]), ([15, 7], [7, 15]), ([16, 7], [7, 16]), ([12, 17, 7, 7], [7, 12, 17]), ([18, 7], [7, 18]), ([7, 19], [7, 19]), ([20, 18], [20]), ([21], [21]), ([21], [21]), ([22, 23, 21], [21, 22, 23]), ([24, 21], [21, 24]), ([25, 21], [21, 25]), ([21], [21]), ([21], [21]), ([27, 28, 21], [21, 27, 28]), ([29, 21], [21, 29]), ([30, 21], [21, 30]), ([26, 31, 21, 21], [21, 26, 31]), ([32, 21], [21, 32]), ([21, 33], [21, 33])])
def pollardlaw19_MergeTurned.B14 : List Nat := [0, 0, 3, 7, 15, 0, 63, 127, 255, 255, 1023, 2047, 4095, 255, 255, 24831, 57599, 123135, 262143, 524287, 1048575, 2097151, 4194303, 4194303, 16777215, 33554431, 67108863, 4194303, 4194303, 406847487, 943718399, 2017460223, 4294967295, 8589934591, 17179869183]
theorem pollardlaw19_MergeTurned.tab14 : rtab .any (opsOf Tryd.f6 14) = pollardlaw19_MergeTurned.T14 := by kernel_rfl
theorem pollardlaw19_MergeTurned.bits14 : waitsOk pollardlaw19_MergeTurned.T14.2 pollardlaw19_MergeTurned.B14 = true := by kernel_rfl
set_option maxHeartbeats 8000000 in
set_option maxRecDepth 100000 in
theorem pollardlaw19_MergeTurned.calls (k : Nat) (A0 : Option Addr) (c0 : Nat) (l0 : List ByteArray) (A1 : Option Addr) (c1 : Nat) (l1 : List ByteArray) (A2 : Option Addr) (c2 : Nat) (l2 : List ByteArray) (r : Bool) (w : World) (hr0 : Kd.C Kd.string w A0 l0.length l0) (hc0 : l0.length ≤ c0) (hr1 : Kd.C Kd.string w A1 l1.length l1) (hc1 : l1.length ≤ c1) (hr2 : Kd.C Kd.string w A2 l2.length l2) (hc2 : l2.length ≤ c2) (h : pollardlaw19_MergeTurned.f k l0 l1 l2 = some r) :
    Calls Tryd.prog 6 #[.slice A0 l0.length c0, .slice A1 l1.length c1, .slice A2 l2.length c2] w fun e w' => e = .returned (.bool r) ∧ Below w.heap.size w w' := by
  have HR0 := Aside0.mk hr0
  have HC0 := Aside0.mk hc0
  clear hr0 hc0
  have HR1 := Aside0.mk hr1
  have HC1 := Aside0.mk hc1
  clear hr1 hc1
  have HR2 := Aside0.mk hr2
  have HC2 := Aside0.mk hc2
  clear hr2 hc2
  have HB := Aside0.mk (Below.refl w.heap.size w)
  have H : ((pollardlaw19_text.f k l0).bind fun t214 => ((pollardlaw19_text.f k l1).bind fun t215 => ((pollardlaw19_text.f k l2).bind fun t216 => ((merge_Texts.f k t214 t215 t216).bind fun bt217 => ((merge_Texts.f k t214 t216 t215).bind fun bt220 => ((pollardlaw18_Cut.f l0).bind fun t223 => ((pollardlaw18_Cut.f l1).bind fun t226 => ((pollardlaw18_Cut.f l2).bind fun t229 => ((merge_Chunks.f k t223 t226 t229).bind fun bt232 => ((pollardlaw18_Cut.f l0).bind fun t236 => ((pollardlaw18_Cut.f l2).bind fun t239 => ((pollardlaw18_Cut.f l1).bind fun t242 => ((merge_Chunks.f k t236 t239 t242).bind fun bt245 => ((pollardlaw19_awake.f k).bind fun t249 => (if t249 = true then (if bt217.2.2 = 0 then (if bt220.2.2 = 0 then (if bt232.2 = 0 then (if bt245.2 = 0 then (if (bt217.2.1 != bt220.2.1) = true then (pollardlaw19_MergeTurned.j0 k bt232.1 bt245.1 true) else (if bt217.1.toList = bt220.1.toList then (pollardlaw19_MergeTurned.j0 k bt232.1 bt245.1 ((bt232.1.length : Int) != (bt245.1.length : Int))) else (pollardlaw19_MergeTurned.j0 k bt232.1 bt245.1 true))) else (pollardlaw19_MergeTurned.j0 k bt232.1 bt245.1 true)) else (pollardlaw19_MergeTurned.j0 k bt232.1 bt245.1 true)) else (pollardlaw19_MergeTurned.j0 k bt232.1 bt245.1 true)) else (pollardlaw19_MergeTurned.j0 k bt232.1 bt245.1 true)) else (pollardlaw19_MergeTurned.j0 k bt232.1 bt245.1 true)))))))))))))))) = some r := h
  clear h
  replace H := Option.bind_eq_some_iff.mp H
  obtain ⟨t214, A40, H⟩ := H
  replace H : ((pollardlaw19_text.f k l1).bind fun t215 => ((pollardlaw19_text.f k l2).bind fun t216 => ((merge_Texts.f k t214 t215 t216).bind fun bt217 => ((merge_Texts.f k t214 t216 t215).bind fun bt220 => ((pollardlaw18_Cut.f l0).bind fun t223 => ((pollardlaw18_Cut.f l1).bind fun t226 => ((pollardlaw18_Cut.f l2).bind fun t229 => ((merge_Chunks.f k t223 t226 t229).bind fun bt232 => ((pollardlaw18_Cut.f l0).bind fun t236 => ((pollardlaw18_Cut.f l2).bind fun t239 => ((pollardlaw18_Cut.f l1).bind fun t242 => ((merge_Chunks.f k t236 t239 t242).bind fun bt245 => ((pollardlaw19_awake.f k).bind fun t249 => (if t249 = true then (if bt217.2.2 = 0 then (if bt220.2.2 = 0 then (if bt232.2 = 0 then (if bt245.2 = 0 then (if (bt217.2.1 != bt220.2.1) = true then (pollardlaw19_MergeTurned.j0 k bt232.1 bt245.1 true) else (if bt217.1.toList = bt220.1.toList then (pollardlaw19_MergeTurned.j0 k bt232.1 bt245.1 ((bt232.1.length : Int) != (bt245.1.length : Int))) else (pollardlaw19_MergeTurned.j0 k bt232.1 bt245.1 true))) else (pollardlaw19_MergeTurned.j0 k bt232.1 bt245.1 true)) else (pollardlaw19_MergeTurned.j0 k bt232.1 bt245.1 true)) else (pollardlaw19_MergeTurned.j0 k bt232.1 bt245.1 true)) else (pollardlaw19_MergeTurned.j0 k bt232.1 bt245.1 true)) else (pollardlaw19_MergeTurned.j0 k bt232.1 bt245.1 true))))))))))))))) = some r := H
  have A4 := Aside0.mk A40
  clear A40
  replace H := Option.bind_eq_some_iff.mp H
  obtain ⟨t215, A50, H⟩ := H
  replace H : ((pollardlaw19_text.f k l2).bind fun t216 => ((merge_Texts.f k t214 t215 t216).bind fun bt217 => ((merge_Texts.f k t214 t216 t215).bind fun bt220 => ((pollardlaw18_Cut.f l0).bind fun t223 => ((pollardlaw18_Cut.f l1).bind fun t226 => ((pollardlaw18_Cut.f l2).bind fun t229 => ((merge_Chunks.f k t223 t226 t229).bind fun bt232 => ((pollardlaw18_Cut.f l0).bind fun t236 => ((pollardlaw18_Cut.f l2).bind fun t239 => ((pollardlaw18_Cut.f l1).bind fun t242 => ((merge_Chunks.f k t236 t239 t242).bind fun bt245 => ((pollardlaw19_awake.f k).bind fun t249 => (if t249 = true then (if bt217.2.2 = 0 then (if bt220.2.2 = 0 then (if bt232.2 = 0 then (if bt245.2 = 0 then (if (bt217.2.1 != bt220.2.1) = true then (pollardlaw19_MergeTurned.j0 k bt232.1 bt245.1 true) else (if bt217.1.toList = bt220.1.toList then (pollardlaw19_MergeTurned.j0 k bt232.1 bt245.1 ((bt232.1.length : Int) != (bt245.1.length : Int))) else (pollardlaw19_MergeTurned.j0 k bt232.1 bt245.1 true))) else (pollardlaw19_MergeTurned.j0 k bt232.1 bt245.1 true)) else (pollardlaw19_MergeTurned.j0 k bt232.1 bt245.1 true)) else (pollardlaw19_MergeTurned.j0 k bt232.1 bt245.1 true)) else (pollardlaw19_MergeTurned.j0 k bt232.1 bt245.1 true)) else (pollardlaw19_MergeTurned.j0 k bt232.1 bt245.1 true)))))))))))))) = some r := H
  have A5 := Aside0.mk A50
  clear A50
  replace H := Option.bind_eq_some_iff.mp H
  obtain ⟨t216, A60, H⟩ := H
  replace H : ((merge_Texts.f k t214 t215 t216).bind fun bt217 => ((merge_Texts.f k t214 t216 t215).bind fun bt220 => ((pollardlaw18_Cut.f l0).bind fun t223 => ((pollardlaw18_Cut.f l1).bind fun t226 => ((pollardlaw18_Cut.f l2).bind fun t229 => ((merge_Chunks.f k t223 t226 t229).bind fun bt232 => ((pollardlaw18_Cut.f l0).bind fun t236 => ((pollardlaw18_Cut.f l2).bind fun t239 => ((pollardlaw18_Cut.f l1).bind fun t242 => ((merge_Chunks.f k t236 t239 t242).bind fun bt245 => ((pollardlaw19_awake.f k).bind fun t249 => (if t249 = true then (if bt217.2.2 = 0 then (if bt220.2.2 = 0 then (if bt232.2 = 0 then (if bt245.2 = 0 then (if (bt217.2.1 != bt220.2.1) = true then (pollardlaw19_MergeTurned.j0 k bt232.1 bt245.1 true) else (if bt217.1.toList = bt220.1.toList then (pollardlaw19_MergeTurned.j0 k bt232.1 bt245.1 ((bt232.1.length : Int) != (bt245.1.length : Int))) else (pollardlaw19_MergeTurned.j0 k bt232.1 bt245.1 true))) else (pollardlaw19_MergeTurned.j0 k bt232.1 bt245.1 true)) else (pollardlaw19_MergeTurned.j0 k bt232.1 bt245.1 true)) else (pollardlaw19_MergeTurned.j0 k bt232.1 bt245.1 true)) else (pollardlaw19_MergeTurned.j0 k bt232.1 bt245.1 true)) else (pollardlaw19_MergeTurned.j0 k bt232.1 bt245.1 true))))))))))))) = some r := H
  have A6 := Aside0.mk A60
  clear A60
  replace H := Option.bind_eq_some_iff.mp H
  obtain ⟨⟨t217, t218, t219⟩, A70, H⟩ := H
  replace H : ((merge_Texts.f k t214 t216 t215).bind fun bt220 => ((pollardlaw18_Cut.f l0).bind fun t223 => ((pollardlaw18_Cut.f l1).bind fun t226 => ((pollardlaw18_Cut.f l2).bind fun t229 => ((merge_Chunks.f k t223 t226 t229).bind fun bt232 => ((pollardlaw18_Cut.f l0).bind fun t236 => ((pollardlaw18_Cut.f l2).bind fun t239 => ((pollardlaw18_Cut.f l1).bind fun t242 => ((merge_Chunks.f k t236 t239 t242).bind fun bt245 => ((pollardlaw19_awake.f k).bind fun t249 => (if t249 = true then (if t219 = 0 then (if bt220.2.2 = 0 then (if bt232.2 = 0 then (if bt245.2 = 0 then (if (t218 != bt220.2.1) = true then (pollardlaw19_MergeTurned.j0 k bt232.1 bt245.1 true) else (if t217.toList = bt220.1.toList then (pollardlaw19_MergeTurned.j0 k bt232.1 bt245.1 ((bt232.1.length : Int) != (bt245.1.length : Int))) else (pollardlaw19_MergeTurned.j0 k bt232.1 bt245.1 true))) else (pollardlaw19_MergeTurned.j0 k bt232.1 bt245.1 true)) else (pollardlaw19_MergeTurned.j0 k bt232.1 bt245.1 true)) else (pollardlaw19_MergeTurned.j0 k bt232.1 bt245.1 true)) else (pollardlaw19_MergeTurned.j0 k bt232.1 bt245.1 true)) else (pollardlaw19_MergeTurned.j0 k bt232.1 bt245.1 true)))))))))))) = some r := H
  have A7 := Aside0.mk A70
  clear A70
  replace H := Option.bind_eq_some_iff.mp H
  obtain ⟨⟨t220, t221, t222⟩, A80, H⟩ := H
  replace H : ((pollardlaw18_Cut.f l0).bind fun t223 => ((pollardlaw18_Cut.f l1).bind fun t226 => ((pollardlaw18_Cut.f l2).bind fun t229 => ((merge_Chunks.f k t223 t226 t229).bind fun bt232 => ((pollardlaw18_Cut.f l0).bind fun t236 => ((pollardlaw18_Cut.f l2).bind fun t239 => ((pollardlaw18_Cut.f l1).bind fun t242 => ((merge_Chunks.f k t236 t239 t242).bind fun bt245 => ((pollardlaw19_awake.f k).bind fun t249 => (if t249 = true then (if t219 = 0 then (if t222 = 0 then (if bt232.2 = 0 then (if bt245.2 = 0 then (if (t218 != t221) = true then (pollardlaw19_MergeTurned.j0 k bt232.1 bt245.1 true) else (if t217.toList = t220.toList then (pollardlaw19_MergeTurned.j0 k bt232.1 bt245.1 ((bt232.1.length : Int) != (bt245.1.length : Int))) else (pollardlaw19_MergeTurned.j0 k bt232.1 bt245.1 true))) else (pollardlaw19_MergeTurned.j0 k bt232.1 bt245.1 true)) else (pollardlaw19_MergeTurned.j0 k bt232.1 bt245.1 true)) else (pollardlaw19_MergeTurned.j0 k bt232.1 bt245.1 true)) else (pollardlaw19_MergeTurned.j0 k bt232.1 bt245.1 true)) else (pollardlaw19_MergeTurned.j0 k bt232.1 bt245.1 true))))))))))) = some r := H
  have A8 := Aside0.mk A80
  clear A80
  replace H := Option.bind_eq_some_iff.mp H
  obtain ⟨t223, A90, H⟩ := H
  replace H : ((pollardlaw18_Cut.f l1).bind fun t226 => ((pollardlaw18_Cut.f l2).bind fun t229 => ((merge_Chunks.f k t223 t226 t229).bind fun bt232 => ((pollardlaw18_Cut.f l0).bind fun t236 => ((pollardlaw18_Cut.f l2).bind fun t239 => ((pollardlaw18_Cut.f l1).bind fun t242 => ((merge_Chunks.f k t236 t239 t242).bind fun bt245 => ((pollardlaw19_awake.f k).bind fun t249 => (if t249 = true then (if t219 = 0 then (if t222 = 0 then (if bt232.2 = 0 then (if bt245.2 = 0 then (if (t218 != t221) = true then (pollardlaw19_MergeTurned.j0 k bt232.1 bt245.1 true) else (if t217.toList = t220.toList then (pollardlaw19_MergeTurned.j0 k bt232.1 bt245.1 ((bt232.1.length : Int) != (bt245.1.length : Int))) else (pollardlaw19_MergeTurned.j0 k bt232.1 bt245.1 true))) else (pollardlaw19_MergeTurned.j0 k bt232.1 bt245.1 true)) else (pollardlaw19_MergeTurned.j0 k bt232.1 bt245.1 true)) else (pollardlaw19_MergeTurned.j0 k bt232.1 bt245.1 true)) else (pollardlaw19_MergeTurned.j0 k bt232.1 bt245.1 true)) else (pollardlaw19_MergeTurned.j0 k bt232.1 bt245.1 true)))))))))) = some r := H
  have A9 := Aside0.mk A90
  clear A90
  replace H := Option.bind_eq_some_iff.mp H
  obtain ⟨t226, A100, H⟩ := H
  replace H : ((pollardlaw18_Cut.f l2).bind fun t229 => ((merge_Chunks.f k t223 t226 t229).bind fun bt232 => ((pollardlaw18_Cut.f l0).bind fun t236 => ((pollardlaw18_Cut.f l2).bind fun t239 => ((pollardlaw18_Cut.f l1).bind fun t242 => ((merge_Chunks.f k t236 t239 t242).bind fun bt245 => ((pollardlaw19_awake.f k).bind fun t249 => (if t249 = true then (if t219 = 0 then (if t222 = 0 then (if bt232.2 = 0 then (if bt245.2 = 0 then (if (t218 != t221) = true then (pollardlaw19_MergeTurned.j0 k bt232.1 bt245.1 true) else (if t217.toList = t220.toList then (pollardlaw19_MergeTurned.j0 k bt232.1 bt245.1 ((bt232.1.length : Int) != (bt245.1.length : Int))) else (pollardlaw19_MergeTurned.j0 k bt232.1 bt245.1 true))) else (pollardlaw19_MergeTurned.j0 k bt232.1 bt245.1 true)) else (pollardlaw19_MergeTurned.j0 k bt232.1 bt245.1 true)) else (pollardlaw19_MergeTurned.j0 k bt232.1 bt245.1 true)) else (pollardlaw19_MergeTurned.j0 k bt232.1 bt245.1 true)) else (pollardlaw19_MergeTurned.j0 k bt232.1 bt245.1 true))))))))) = some r := H
  have A10 := Aside0.mk A100
  clear A100
  replace H := Option.bind_eq_some_iff.mp H
  obtain ⟨t229, A110, H⟩ := H
  replace H : ((merge_Chunks.f k t223 t226 t229).bind fun bt232 => ((pollardlaw18_Cut.f l0).bind fun t236 => ((pollardlaw18_Cut.f l2).bind fun t239 => ((pollardlaw18_Cut.f l1).bind fun t242 => ((merge_Chunks.f k t236 t239 t242).bind fun bt245 => ((pollardlaw19_awake.f k).bind fun t249 => (if t249 = true then (if t219 = 0 then (if t222 = 0 then (if bt232.2 = 0 then (if bt245.2 = 0 then (if (t218 != t221) = true then (pollardlaw19_MergeTurned.j0 k bt232.1 bt245.1 true) else (if t217.toList = t220.toList then (pollardlaw19_MergeTurned.j0 k bt232.1 bt245.1 ((bt232.1.length : Int) != (bt245.1.length : Int))) else (pollardlaw19_MergeTurned.j0 k bt232.1 bt245.1 true))) else (pollardlaw19_MergeTurned.j0 k bt232.1 bt245.1 true)) else (pollardlaw19_MergeTurned.j0 k bt232.1 bt245.1 true)) else (pollardlaw19_MergeTurned.j0 k bt232.1 bt245.1 true)) else (pollardlaw19_MergeTurned.j0 k bt232.1 bt245.1 true)) else (pollardlaw19_MergeTurned.j0 k bt232.1 bt245.1 true)))))))) = some r := H
  have A11 := Aside0.mk A110
  clear A110
  replace H := Option.bind_eq_some_iff.mp H
  obtain ⟨⟨t232, t233⟩, A120, H⟩ := H
  replace H : ((pollardlaw18_Cut.f l0).bind fun t236 => ((pollardlaw18_Cut.f l2).bind fun t239 => ((pollardlaw18_Cut.f l1).bind fun t242 => ((merge_Chunks.f k t236 t239 t242).bind fun bt245 => ((pollardlaw19_awake.f k).bind fun t249 => (if t249 = true then (if t219 = 0 then (if t222 = 0 then (if t233 = 0 then (if bt245.2 = 0 then (if (t218 != t221) = true then (pollardlaw19_MergeTurned.j0 k t232 bt245.1 true) else (if t217.toList = t220.toList then (pollardlaw19_MergeTurned.j0 k t232 bt245.1 ((t232.length : Int) != (bt245.1.length : Int))) else (pollardlaw19_MergeTurned.j0 k t232 bt245.1 true))) else (pollardlaw19_MergeTurned.j0 k t232 bt245.1 true)) else (pollardlaw19_MergeTurned.j0 k t232 bt245.1 true)) else (pollardlaw19_MergeTurned.j0 k t232 bt245.1 true)) else (pollardlaw19_MergeTurned.j0 k t232 bt245.1 true)) else (pollardlaw19_MergeTurned.j0 k t232 bt245.1 true))))))) = some r := H
  have A12 := Aside0.mk A120
  clear A120
  replace H := Option.bind_eq_some_iff.mp H
  obtain ⟨t236, A130, H⟩ := H
  replace H : ((pollardlaw18_Cut.f l2).bind fun t239 => ((pollardlaw18_Cut.f l1).bind fun t242 => ((merge_Chunks.f k t236 t239 t242).bind fun bt245 => ((pollardlaw19_awake.f k).bind fun t249 => (if t249 = true then (if t219 = 0 then (if t222 = 0 then (if t233 = 0 then (if bt245.2 = 0 then (if (t218 != t221) = true then (pollardlaw19_MergeTurned.j0 k t232 bt245.1 true) else (if t217.toList = t220.toList then (pollardlaw19_MergeTurned.j0 k t232 bt245.1 ((t232.length : Int) != (bt245.1.length : Int))) else (pollardlaw19_MergeTurned.j0 k t232 bt245.1 true))) else (pollardlaw19_MergeTurned.j0 k t232 bt245.1 true)) else (pollardlaw19_MergeTurned.j0 k t232 bt245.1 true)) else (pollardlaw19_MergeTurned.j0 k t232 bt245.1 true)) else (pollardlaw19_MergeTurned.j0 k t232 bt245.1 true)) else (pollardlaw19_MergeTurned.j0 k t232 bt245.1 true)))))) = some r := H
  have A13 := Aside0.mk A130
  clear A130
  replace H := Option.bind_eq_some_iff.mp H
  obtain ⟨t239, A140, H⟩ := H
  replace H : ((pollardlaw18_Cut.f l1).bind fun t242 => ((merge_Chunks.f k t236 t239 t242).bind fun bt245 => ((pollardlaw19_awake.f k).bind fun t249 => (if t249 = true then (if t219 = 0 then (if t222 = 0 then (if t233 = 0 then (if bt245.2 = 0 then (if (t218 != t221) = true then (pollardlaw19_MergeTurned.j0 k t232 bt245.1 true) else (if t217.toList = t220.toList then (pollardlaw19_MergeTurned.j0 k t232 bt245.1 ((t232.length : Int) != (bt245.1.length : Int))) else (pollardlaw19_MergeTurned.j0 k t232 bt245.1 true))) else (pollardlaw19_MergeTurned.j0 k t232 bt245.1 true)) else (pollardlaw19_MergeTurned.j0 k t232 bt245.1 true)) else (pollardlaw19_MergeTurned.j0 k t232 bt245.1 true)) else (pollardlaw19_MergeTurned.j0 k t232 bt245.1 true)) else (pollardlaw19_MergeTurned.j0 k t232 bt245.1 true))))) = some r := H
  have A14 := Aside0.mk A140
  clear A140
  replace H := Option.bind_eq_some_iff.mp H
  obtain ⟨t242, A150, H⟩ := H
  replace H : ((merge_Chunks.f k t236 t239 t242).bind fun bt245 => ((pollardlaw19_awake.f k).bind fun t249 => (if t249 = true then (if t219 = 0 then (if t222 = 0 then (if t233 = 0 then (if bt245.2 = 0 then (if (t218 != t221) = true then (pollardlaw19_MergeTurned.j0 k t232 bt245.1 true) else (if t217.toList = t220.toList then (pollardlaw19_MergeTurned.j0 k t232 bt245.1 ((t232.length : Int) != (bt245.1.length : Int))) else (pollardlaw19_MergeTurned.j0 k t232 bt245.1 true))) else (pollardlaw19_MergeTurned.j0 k t232 bt245.1 true)) else (pollardlaw19_MergeTurned.j0 k t232 bt245.1 true)) else (pollardlaw19_MergeTurned.j0 k t232 bt245.1 true)) else (pollardlaw19_MergeTurned.j0 k t232 bt245.1 true)) else (pollardlaw19_MergeTurned.j0 k t232 bt245.1 true)))) = some r := H
  have A15 := Aside0.mk A150
  clear A150
  replace H := Option.bind_eq_some_iff.mp H
  obtain ⟨⟨t245, t246⟩, A160, H⟩ := H
  replace H : ((pollardlaw19_awake.f k).bind fun t249 => (if t249 = true then (if t219 = 0 then (if t222 = 0 then (if t233 = 0 then (if t246 = 0 then (if (t218 != t221) = true then (pollardlaw19_MergeTurned.j0 k t232 t245 true) else (if t217.toList = t220.toList then (pollardlaw19_MergeTurned.j0 k t232 t245 ((t232.length : Int) != (t245.length : Int))) else (pollardlaw19_MergeTurned.j0 k t232 t245 true))) else (pollardlaw19_MergeTurned.j0 k t232 t245 true)) else (pollardlaw19_MergeTurned.j0 k t232 t245 true)) else (pollardlaw19_MergeTurned.j0 k t232 t245 true)) else (pollardlaw19_MergeTurned.j0 k t232 t245 true)) else (pollardlaw19_MergeTurned.j0 k t232 t245 true))) = some r := H
  have A16 := Aside0.mk A160
  clear A160
  have HC17 := Aside0.mk H
  clear H
  go_enter Tryd.func6, Tryd.ntmps6
  go_upto_region 6 with (first | ((with_reducible refine gate_callee (f := 14) rfl ?_); refine goesL_ (some 23) rfl rfl Tryd.func14 (by kernel_rfl) rfl #[.slice A0 l0.length c0] rfl (by (try simp only [List.map_toArray, List.map_cons, List.map_nil]); first | done | rfl | (simp only [List.length_drop, List.length_take]; rfl)) ?_; (with_reducible refine (pollardlaw19_text.calls k _ _ l0 t214 _ ?side1 ?side2 A4.out).mono ?_); (case side1 => repeat (first | exact HR0.out | (with_reducible refine Kd.C_alloc ?_ _) | (with_reducible refine Kd.C_drewN ?_ _) | (with_reducible refine Kd.C_drew ?_))); (case side2 => exact HC0.out); rintro e w' ⟨rfl, ⟨nd, rfl⟩⟩; refine ⟨_, rfl, ?_⟩) | ((with_reducible refine gate_callee (f := 14) rfl ?_); refine goesL_ (some 25) rfl rfl Tryd.func14 (by kernel_rfl) rfl #[.slice A1 l1.length c1] rfl (by (try simp only [List.map_toArray, List.map_cons, List.map_nil]); first | done | rfl | (simp only [List.length_drop, List.length_take]; rfl)) ?_; (with_reducible refine (pollardlaw19_text.calls k _ _ l1 t215 _ ?side1 ?side2 A5.out).mono ?_); (case side1 => repeat (first | exact HR1.out | (with_reducible refine Kd.C_alloc ?_ _) | (with_reducible refine Kd.C_drewN ?_ _) | (with_reducible refine Kd.C_drew ?_))); (case side2 => exact HC1.out); rintro e w' ⟨rfl, ⟨nd, rfl⟩⟩; refine ⟨_, rfl, ?_⟩) | ((with_reducible refine gate_callee (f := 14) rfl ?_); refine goesL_ (some 27) rfl rfl Tryd.func14 (by kernel_rfl) rfl #[.slice A2 l2.length c2] rfl (by (try simp only [List.map_toArray, List.map_cons, List.map_nil]); first | done | rfl | (simp only [List.length_drop, List.length_take]; rfl)) ?_; (with_reducible refine (pollardlaw19_text.calls k _ _ l2 t216 _ ?side1 ?side2 A6.out).mono ?_); (case side1 => repeat (first | exact HR2.out | (with_reducible refine Kd.C_alloc ?_ _) | (with_reducible refine Kd.C_drewN ?_ _) | (with_reducible refine Kd.C_drew ?_))); (case side2 => exact HC2.out); rintro e w' ⟨rfl, ⟨nd, rfl⟩⟩; refine ⟨_, rfl, ?_⟩) | ((with_reducible refine gate_callee (f := 15) rfl ?_); refine goesL_ (some 32) rfl rfl Tryd.func15 (by kernel_rfl) rfl #[.string t214, .string t215, .string t216] rfl (by (try simp only [List.map_toArray, List.map_cons, List.map_nil]); first | done | rfl | (simp only [List.length_drop, List.length_take]; rfl)) ?_; (with_reducible refine (merge_Texts.calls k t214 t215 t216 t217 t218 t219 _ A7.out).mono ?_); rintro e w18 ⟨rfl, hb⟩; refine ⟨_, rfl, ?_⟩; have n0_ := Aside0.mk (below_step (by repeat (first | (with_reducible first | exact HB.out | apply below_alloc | apply pw_below_drewN | apply below_drew1) | exact HB.out)) hb); clear HB; have HB := n0_; clear n0_; (try clear hb); (try clear hb2); (try clear hk); (try clear hi)) | ((with_reducible refine gate_callee (f := 15) rfl ?_); refine goesL_ (some 40) rfl rfl Tryd.func15 (by kernel_rfl) rfl #[.string t214, .string t216, .string t215] rfl (by (try simp only [List.map_toArray, List.map_cons, List.map_nil]); first | done | rfl | (simp only [List.length_drop, List.length_take]; rfl)) ?_; (with_reducible refine (merge_Texts.calls k t214 t216 t215 t220 t221 t222 _ A8.out).mono ?_); rintro e w19 ⟨rfl, hb⟩; refine ⟨_, rfl, ?_⟩; have n0_ := Aside0.mk (below_step (by repeat (first | (with_reducible first | exact HB.out | apply below_alloc | apply pw_below_drewN | apply below_drew1) | exact HB.out)) hb); clear HB; have HB := n0_; clear n0_; (try clear hb); (try clear hb2); (try clear hk); (try clear hi)) | ((with_reducible refine gate_callee (f := 10) rfl ?_); refine goesL_ (some 46) rfl rfl Tryd.func10 (by kernel_rfl) rfl #[.slice A0 l0.length c0] rfl (by (try simp only [List.map_toArray, List.map_cons, List.map_nil]); first | done | rfl | (simp only [List.length_drop, List.length_take]; rfl)) ?_; (with_reducible refine (pollardlaw18_Cut.calls (fun k_ => k_ < w.heap.size) _ _ l0 t223 _ ?side1 A9.out).mono ?_); (case side1 => exact Kd.V_mk HC0.out (Kd.F_below (Kd.C_F Kd.heap_string HR0.out) (by repeat (first | (with_reducible first | exact HB.out | apply below_alloc | apply pw_below_drewN | apply below_drew1) | exact HB.out)))); rintro e w20 ⟨v224, rfl, ho0, hb⟩; refine ⟨_, rfl, ?_⟩; have n0_ := Aside0.mk (Kd.V_lower (Kd.V_mono (ok' := fun k_ => True) ho0 (fun k_ hk_ => trivial)) (below_size (by repeat (first | (with_reducible first | exact HB.out | apply below_alloc | apply pw_below_drewN | apply below_drew1) | exact HB.out)))); have n1_ := Aside0.mk (below_step (by repeat (first | (with_reducible first | exact HB.out | apply below_alloc | apply pw_below_drewN | apply below_drew1) | exact HB.out)) hb); clear HB; have HO225 := n0_; have HB := n1_; clear n0_ n1_; (try clear hb); (try clear hb2); (try clear hk); (try clear hi); (try clear ho0)) | ((with_reducible refine gate_callee (f := 10) rfl ?_); refine goesL_ (some 48) rfl rfl Tryd.func10 (by kernel_rfl) rfl #[.slice A1 l1.length c1] rfl (by (try simp only [List.map_toArray, List.map_cons, List.map_nil]); first | done | rfl | (simp only [List.length_drop, List.length_take]; rfl)) ?_; (with_reducible refine (pollardlaw18_Cut.calls (fun k_ => k_ < w.heap.size) _ _ l1 t226 _ ?side1 A10.out).mono ?_); (case side1 => exact Kd.V_mk HC1.out (Kd.F_below (Kd.C_F Kd.heap_string HR1.out) (by repeat (first | (with_reducible first | exact HB.out | apply below_alloc | apply pw_below_drewN | apply below_drew1) | exact HB.out)))); rintro e w21 ⟨v227, rfl, ho0, hb⟩; refine ⟨_, rfl, ?_⟩; have n0_ := Aside0.mk (Kd.V_below (by (with_reducible repeat (first | apply Kd.V_alloc | apply Kd.V_drewN | apply Kd.V_drew)); exact HO225.out) hb); have n1_ := Aside0.mk (Kd.V_lower (Kd.V_mono (ok' := fun k_ => True) ho0 (fun k_ hk_ => trivial)) (below_size (by repeat (first | (with_reducible first | exact HB.out | apply below_alloc | apply pw_below_drewN | apply below_drew1) | exact HB.out)))); have n2_ := Aside0.mk (below_step (by repeat (first | (with_reducible first | exact HB.out | apply below_alloc | apply pw_below_drewN | apply below_drew1) | exact HB.out)) hb); clear HO225; clear HB; have HO225 := n0_; have HO228 := n1_; have HB := n2_; clear n0_ n1_ n2_; (try clear hb); (try clear hb2); (try clear hk); (try clear hi); (try clear ho0)) | ((with_reducible refine gate_callee (f := 10) rfl ?_); refine goesL_ (some 50) rfl rfl Tryd.func10 (by kernel_rfl) rfl #[.slice A2 l2.length c2] rfl (by (try simp only [List.map_toArray, List.map_cons, List.map_nil]); first | done | rfl | (simp only [List.length_drop, List.length_take]; rfl)) ?_; (with_reducible refine (pollardlaw18_Cut.calls (fun k_ => k_ < w.heap.size) _ _ l2 t229 _ ?side1 A11.out).mono ?_); (case side1 => exact Kd.V_mk HC2.out (Kd.F_below (Kd.C_F Kd.heap_string HR2.out) (by repeat (first | (with_reducible first | exact HB.out | apply below_alloc | apply pw_below_drewN | apply below_drew1) | exact HB.out)))); rintro e w22 ⟨v230, rfl, ho0, hb⟩; refine ⟨_, rfl, ?_⟩; have n0_ := Aside0.mk (Kd.V_below (by (with_reducible repeat (first | apply Kd.V_alloc | apply Kd.V_drewN | apply Kd.V_drew)); exact HO225.out) hb); have n1_ := Aside0.mk (Kd.V_below (by (with_reducible repeat (first | apply Kd.V_alloc | apply Kd.V_drewN | apply Kd.V_drew)); exact HO228.out) hb); have n2_ := Aside0.mk (Kd.V_lower (Kd.V_mono (ok' := fun k_ => True) ho0 (fun k_ hk_ => trivial)) (below_size (by repeat (first | (with_reducible first | exact HB.out | apply below_alloc | apply pw_below_drewN | apply below_drew1) | exact HB.out)))); have n3_ := Aside0.mk (below_step (by repeat (first | (with_reducible first | exact HB.out | apply below_alloc | apply pw_below_drewN | apply below_drew1) | exact HB.out)) hb); clear HO225; clear HO228; clear HB; have HO225 := n0_; have HO228 := n1_; have HO231 := n2_; have HB := n3_; clear n0_ n1_ n2_ n3_; (try clear hb); (try clear hb2); (try clear hk); (try clear hi); (try clear ho0); obtain ⟨Ao23, co23, eo23⟩ := Kd.V_slice HO225.out; subst eo23; obtain ⟨Ao24, co24, eo24⟩ := Kd.V_slice HO228.out; subst eo24; obtain ⟨Ao25, co25, eo25⟩ := Kd.V_slice HO231.out; subst eo25) | ((with_reducible refine gate_callee (f := 9) rfl ?_); refine goesL_ (some 51) rfl rfl Tryd.func9 (by kernel_rfl) rfl #[.slice Ao23 t223.length co23, .slice Ao24 t226.length co24, .slice Ao25 t229.length co25] rfl (by (try simp only [List.map_toArray, List.map_cons, List.map_nil]); first | done | rfl | (simp only [List.length_drop, List.length_take]; rfl)) ?_; (with_reducible refine (merge_Chunks.calls k _ _ t223 _ _ t226 _ _ t229 t232 t233 _ ?side1 ?side2 ?side3 ?side4 ?side5 ?side6 A12.out).mono ?_); (case side1 => repeat (first | exact (Kd.V_reads' HO225.out).2.2 | (with_reducible refine Kd.C_alloc ?_ _) | (with_reducible refine Kd.C_drewN ?_ _) | (with_reducible refine Kd.C_drew ?_))); (case side2 => exact (Kd.V_reads' HO225.out).2.1); (case side3 => repeat (first | exact (Kd.V_reads' HO228.out).2.2 | (with_reducible refine Kd.C_alloc ?_ _) | (with_reducible refine Kd.C_drewN ?_ _) | (with_reducible refine Kd.C_drew ?_))); (case side4 => exact (Kd.V_reads' HO228.out).2.1); (case side5 => repeat (first | exact (Kd.V_reads' HO231.out).2.2 | (with_reducible refine Kd.C_alloc ?_ _) | (with_reducible refine Kd.C_drewN ?_ _) | (with_reducible refine Kd.C_drew ?_))); (case side6 => exact (Kd.V_reads' HO231.out).2.1); rintro e w26 ⟨v234, rfl, ho0, hb⟩; refine ⟨_, rfl, ?_⟩; have n0_ := Aside0.mk (Kd.V_elder' (by (with_reducible repeat (first | apply Kd.V_alloc | apply Kd.V_drewN | apply Kd.V_drew)); exact HO225.out) (Kd.S_base ho0) hb); have n1_ := Aside0.mk (Kd.V_elder' (by (with_reducible repeat (first | apply Kd.V_alloc | apply Kd.V_drewN | apply Kd.V_drew)); exact HO228.out) (Kd.S_base ho0) hb); have n2_ := Aside0.mk (Kd.V_elder' (by (with_reducible repeat (first | apply Kd.V_alloc | apply Kd.V_drewN | apply Kd.V_drew)); exact HO231.out) (Kd.S_base ho0) hb); have n3_ := Aside0.mk (Kd.S_lower ho0 (below_size (by repeat (first | (with_reducible first | exact HB.out | apply below_alloc | apply pw_below_drewN | apply below_drew1) | exact HB.out)))); have n4_ := Aside0.mk (below_step (by repeat (first | (with_reducible first | exact HB.out | apply below_alloc | apply pw_below_drewN | apply below_drew1) | exact HB.out)) hb); clear HO225; clear HO228; clear HO231; clear HB; have HO225 := n0_; have HO228 := n1_; have HO231 := n2_; have HO235 := n3_; have HB := n4_; clear n0_ n1_ n2_ n3_ n4_; (try clear hb); (try clear hb2); (try clear hk); (try clear hi); (try clear ho0)) | ((with_reducible refine gate_callee (f := 10) rfl ?_); refine goesL_ (some 56) rfl rfl Tryd.func10 (by kernel_rfl) rfl #[.slice A0 l0.length c0] rfl (by (try simp only [List.map_toArray, List.map_cons, List.map_nil]); first | done | rfl | (simp only [List.length_drop, List.length_take]; rfl)) ?_; (with_reducible refine (pollardlaw18_Cut.calls (fun k_ => k_ < w.heap.size) _ _ l0 t236 _ ?side1 A13.out).mono ?_); (case side1 => exact Kd.V_mk HC0.out (Kd.F_below (Kd.C_F Kd.heap_string HR0.out) (by repeat (first | (with_reducible first | exact HB.out | apply below_alloc | apply pw_below_drewN | apply below_drew1) | exact HB.out)))); rintro e w27 ⟨v237, rfl, ho0, hb⟩; refine ⟨_, rfl, ?_⟩; have n0_ := Aside0.mk (Kd.V_below (by (with_reducible repeat (first | apply Kd.V_alloc | apply Kd.V_drewN | apply Kd.V_drew)); exact HO225.out) hb); have n1_ := Aside0.mk (Kd.V_below (by (with_reducible repeat (first | apply Kd.V_alloc | apply Kd.V_drewN | apply Kd.V_drew)); exact HO228.out) hb); have n2_ := Aside0.mk (Kd.V_below (by (with_reducible repeat (first | apply Kd.V_alloc | apply Kd.V_drewN | apply Kd.V_drew)); exact HO231.out) hb); have n3_ := Aside0.mk (Kd.S_below (by (with_reducible repeat (first | apply Kd.S_alloc | apply Kd.S_drewN | apply Kd.S_drew)); exact HO235.out) hb); have n4_ := Aside0.mk (Kd.V_lower (Kd.V_mono (ok' := fun k_ => some k_ ≠ (v234 : Value).ownBlock) ho0 (fun k_ hk_ => Or.elim hk_ (fun hs_ => fun e_ => Nat.not_le.2 hs_ (Kd.S_base HO235.out k_ e_.symm)) (fun hn_ => (Kd.fresh' (Kd.S_lt (by (with_reducible repeat (first | apply Kd.S_alloc | apply Kd.S_drewN | apply Kd.S_drew)); exact HO235.out)) k_ hn_)))) (below_size (by repeat (first | (with_reducible first | exact HB.out | apply below_alloc | apply pw_below_drewN | apply below_drew1) | exact HB.out)))); have n5_ := Aside0.mk (below_step (by repeat (first | (with_reducible first | exact HB.out | apply below_alloc | apply pw_below_drewN | apply below_drew1) | exact HB.out)) hb); clear HO225; clear HO228; clear HO231; clear HO235; clear HB; have HO225 := n0_; have HO228 := n1_; have HO231 := n2_; have HO235 := n3_; have HO238 := n4_; have HB := n5_; clear n0_ n1_ n2_ n3_ n4_ n5_; (try clear hb); (try clear hb2); (try clear hk); (try clear hi); (try clear ho0)) | ((with_reducible refine gate_callee (f := 10) rfl ?_); refine goesL_ (some 58) rfl rfl Tryd.func10 (by kernel_rfl) rfl #[.slice A2 l2.length c2] rfl (by (try simp only [List.map_toArray, List.map_cons, List.map_nil]); first | done | rfl | (simp only [List.length_drop, List.length_take]; rfl)) ?_; (with_reducible refine (pollardlaw18_Cut.calls (fun k_ => k_ < w.heap.size) _ _ l2 t239 _ ?side1 A14.out).mono ?_); (case side1 => exact Kd.V_mk HC2.out (Kd.F_below (Kd.C_F Kd.heap_string HR2.out) (by repeat (first | (with_reducible first | exact HB.out | apply below_alloc | apply pw_below_drewN | apply below_drew1) | exact HB.out)))); rintro e w28 ⟨v240, rfl, ho0, hb⟩; refine ⟨_, rfl, ?_⟩; have n0_ := Aside0.mk (Kd.V_below (by (with_reducible repeat (first | apply Kd.V_alloc | apply Kd.V_drewN | apply Kd.V_drew)); exact HO225.out) hb); have n1_ := Aside0.mk (Kd.V_below (by (with_reducible repeat (first | apply Kd.V_alloc | apply Kd.V_drewN | apply Kd.V_drew)); exact HO228.out) hb); have n2_ := Aside0.mk (Kd.V_below (by (with_reducible repeat (first | apply Kd.V_alloc | apply Kd.V_drewN | apply Kd.V_drew)); exact HO231.out) hb); have n3_ := Aside0.mk (Kd.S_below (by (with_reducible repeat (first | apply Kd.S_alloc | apply Kd.S_drewN | apply Kd.S_drew)); exact HO235.out) hb); have n4_ := Aside0.mk (Kd.V_below (by (with_reducible repeat (first | apply Kd.V_alloc | apply Kd.V_drewN | apply Kd.V_drew)); exact HO238.out) hb); have n5_ := Aside0.mk (Kd.V_lower (Kd.V_mono (ok' := fun k_ => some k_ ≠ (v234 : Value).ownBlock) ho0 (fun k_ hk_ => Or.elim hk_ (fun hs_ => fun e_ => Nat.not_le.2 hs_ (Kd.S_base HO235.out k_ e_.symm)) (fun hn_ => (Kd.fresh' (Kd.S_lt (by (with_reducible repeat (first | apply Kd.S_alloc | apply Kd.S_drewN | apply Kd.S_drew)); exact HO235.out)) k_ hn_)))) (below_size (by repeat (first | (with_reducible first | exact HB.out | apply below_alloc | apply pw_below_drewN | apply below_drew1) | exact HB.out)))); have n6_ := Aside0.mk (below_step (by repeat (first | (with_reducible first | exact HB.out | apply below_alloc | apply pw_below_drewN | apply below_drew1) | exact HB.out)) hb); clear HO225; clear HO228; clear HO231; clear HO235; clear HO238; clear HB; have HO225 := n0_; have HO228 := n1_; have HO231 := n2_; have HO235 := n3_; have HO238 := n4_; have HO241 := n5_; have HB := n6_; clear n0_ n1_ n2_ n3_ n4_ n5_ n6_; (try clear hb); (try clear hb2); (try clear hk); (try clear hi); (try clear ho0)) | ((with_reducible refine gate_callee (f := 10) rfl ?_); refine goesL_ (some 60) rfl rfl Tryd.func10 (by kernel_rfl) rfl #[.slice A1 l1.length c1] rfl (by (try simp only [List.map_toArray, List.map_cons, List.map_nil]); first | done | rfl | (simp only [List.length_drop, List.length_take]; rfl)) ?_; (with_reducible refine (pollardlaw18_Cut.calls (fun k_ => k_ < w.heap.size) _ _ l1 t242 _ ?side1 A15.out).mono ?_); (case side1 => exact Kd.V_mk HC1.out (Kd.F_below (Kd.C_F Kd.heap_string HR1.out) (by repeat (first | (with_reducible first | exact HB.out | apply below_alloc | apply pw_below_drewN | apply below_drew1) | exact HB.out)))); rintro e w29 ⟨v243, rfl, ho0, hb⟩; refine ⟨_, rfl, ?_⟩; have n0_ := Aside0.mk (Kd.V_below (by (with_reducible repeat (first | apply Kd.V_alloc | apply Kd.V_drewN | apply Kd.V_drew)); exact HO225.out) hb); have n1_ := Aside0.mk (Kd.V_below (by (with_reducible repeat (first | apply Kd.V_alloc | apply Kd.V_drewN | apply Kd.V_drew)); exact HO228.out) hb); have n2_ := Aside0.mk (Kd.V_below (by (with_reducible repeat (first | apply Kd.V_alloc | apply Kd.V_drewN | apply Kd.V_drew)); exact HO231.out) hb); have n3_ := Aside0.mk (Kd.S_below (by (with_reducible repeat (first | apply Kd.S_alloc | apply Kd.S_drewN | apply Kd.S_drew)); exact HO235.out) hb); have n4_ := Aside0.mk (Kd.V_below (by (with_reducible repeat (first | apply Kd.V_alloc | apply Kd.V_drewN | apply Kd.V_drew)); exact HO238.out) hb); have n5_ := Aside0.mk (Kd.V_below (by (with_reducible repeat (first | apply Kd.V_alloc | apply Kd.V_drewN | apply Kd.V_drew)); exact HO241.out) hb); have n6_ := Aside0.mk (Kd.V_lower (Kd.V_mono (ok' := fun k_ => some k_ ≠ (v234 : Value).ownBlock) ho0 (fun k_ hk_ => Or.elim hk_ (fun hs_ => fun e_ => Nat.not_le.2 hs_ (Kd.S_base HO235.out k_ e_.symm)) (fun hn_ => (Kd.fresh' (Kd.S_lt (by (with_reducible repeat (first | apply Kd.S_alloc | apply Kd.S_drewN | apply Kd.S_drew)); exact HO235.out)) k_ hn_)))) (below_size (by repeat (first | (with_reducible first | exact HB.out | apply below_alloc | apply pw_below_drewN | apply below_drew1) | exact HB.out)))); have n7_ := Aside0.mk (below_step (by repeat (first | (with_reducible first | exact HB.out | apply below_alloc | apply pw_below_drewN | apply below_drew1) | exact HB.out)) hb); clear HO225; clear HO228; clear HO231; clear HO235; clear HO238; clear HO241; clear HB; have HO225 := n0_; have HO228 := n1_; have HO231 := n2_; have HO235 := n3_; have HO238 := n4_; have HO241 := n5_; have HO244 := n6_; have HB := n7_; clear n0_ n1_ n2_ n3_ n4_ n5_ n6_ n7_; (try clear hb); (try clear hb2); (try clear hk); (try clear hi); (try clear ho0); obtain ⟨Ao30, co30, eo30⟩ := Kd.V_slice HO238.out; subst eo30; obtain ⟨Ao31, co31, eo31⟩ := Kd.V_slice HO241.out; subst eo31; obtain ⟨Ao32, co32, eo32⟩ := Kd.V_slice HO244.out; subst eo32) | ((with_reducible refine gate_callee (f := 9) rfl ?_); refine goesL_ (some 61) rfl rfl Tryd.func9 (by kernel_rfl) rfl #[.slice Ao30 t236.length co30, .slice Ao31 t239.length co31, .slice Ao32 t242.length co32] rfl (by (try simp only [List.map_toArray, List.map_cons, List.map_nil]); first | done | rfl | (simp only [List.length_drop, List.length_take]; rfl)) ?_; (with_reducible refine (merge_Chunks.calls k _ _ t236 _ _ t239 _ _ t242 t245 t246 _ ?side1 ?side2 ?side3 ?side4 ?side5 ?side6 A16.out).mono ?_); (case side1 => repeat (first | exact (Kd.V_reads' HO238.out).2.2 | (with_reducible refine Kd.C_alloc ?_ _) | (with_reducible refine Kd.C_drewN ?_ _) | (with_reducible refine Kd.C_drew ?_))); (case side2 => exact (Kd.V_reads' HO238.out).2.1); (case side3 => repeat (first | exact (Kd.V_reads' HO241.out).2.2 | (with_reducible refine Kd.C_alloc ?_ _) | (with_reducible refine Kd.C_drewN ?_ _) | (with_reducible refine Kd.C_drew ?_))); (case side4 => exact (Kd.V_reads' HO241.out).2.1); (case side5 => repeat (first | exact (Kd.V_reads' HO244.out).2.2 | (with_reducible refine Kd.C_alloc ?_ _) | (with_reducible refine Kd.C_drewN ?_ _) | (with_reducible refine Kd.C_drew ?_))); (case side6 => exact (Kd.V_reads' HO244.out).2.1); rintro e w33 ⟨v247, rfl, ho0, hb⟩; refine ⟨_, rfl, ?_⟩; have n0_ := Aside0.mk (Kd.V_elder' (by (with_reducible repeat (first | apply Kd.V_alloc | apply Kd.V_drewN | apply Kd.V_drew)); exact HO225.out) (Kd.S_base ho0) hb); have n1_ := Aside0.mk (Kd.V_elder' (by (with_reducible repeat (first | apply Kd.V_alloc | apply Kd.V_drewN | apply Kd.V_drew)); exact HO228.out) (Kd.S_base ho0) hb); have n2_ := Aside0.mk (Kd.V_elder' (by (with_reducible repeat (first | apply Kd.V_alloc | apply Kd.V_drewN | apply Kd.V_drew)); exact HO231.out) (Kd.S_base ho0) hb); have n3_ := Aside0.mk (Kd.S_elder' (by (with_reducible repeat (first | apply Kd.S_alloc | apply Kd.S_drewN | apply Kd.S_drew)); exact HO235.out) (Kd.S_base ho0) hb); have n4_ := Aside0.mk (Kd.V_elder' (by (with_reducible repeat (first | apply Kd.V_alloc | apply Kd.V_drewN | apply Kd.V_drew)); exact HO238.out) (Kd.S_base ho0) hb); have n5_ := Aside0.mk (Kd.V_elder' (by (with_reducible repeat (first | apply Kd.V_alloc | apply Kd.V_drewN | apply Kd.V_drew)); exact HO241.out) (Kd.S_base ho0) hb); have n6_ := Aside0.mk (Kd.V_elder' (by (with_reducible repeat (first | apply Kd.V_alloc | apply Kd.V_drewN | apply Kd.V_drew)); exact HO244.out) (Kd.S_base ho0) hb); have n7_ := Aside0.mk (Kd.S_lower (Kd.S_new' ho0 (Kd.S_lt (by (with_reducible repeat (first | apply Kd.S_alloc | apply Kd.S_drewN | apply Kd.S_drew)); exact HO235.out))) (below_size (by repeat (first | (with_reducible first | exact HB.out | apply below_alloc | apply pw_below_drewN | apply below_drew1) | exact HB.out)))); have n8_ := Aside0.mk (below_step (by repeat (first | (with_reducible first | exact HB.out | apply below_alloc | apply pw_below_drewN | apply below_drew1) | exact HB.out)) hb); clear HO225; clear HO228; clear HO231; clear HO235; clear HO238; clear HO241; clear HO244; clear HB; have HO225 := n0_; have HO228 := n1_; have HO231 := n2_; have HO235 := n3_; have HO238 := n4_; have HO241 := n5_; have HO244 := n6_; have HO248 := n7_; have HB := n8_; clear n0_ n1_ n2_ n3_ n4_ n5_ n6_ n7_ n8_; (try clear hb); (try clear hb2); (try clear hk); (try clear hi); (try clear ho0)))
  (try simp only [Act.put, List.setIfInBounds_toArray, List.set_cons_zero, List.set_cons_succ])
  go_cut [98] (fun v98 wc => ∃ (kq : Nat) (x98_16 : Bool), v98 = .bool x98_16 ∧ Aside0 (pollardlaw19_MergeTurned.j0 kq t232 t245 x98_16 = some r) ∧ Aside0 (kq ≤ k) ∧ Aside0 (Kd.S k32 32 wc w.heap.size (fun k_ => some k_ ≠ (v247 : Value).ownBlock) v234 t232) ∧ Aside0 (Kd.S k32 32 wc w.heap.size (fun k_ => some k_ ≠ (v234 : Value).ownBlock) v247 t245) ∧ Aside0 (Below w.heap.size w wc))
  case first =>
    have H := HC17.out
    clear HC17
    replace H := Option.bind_eq_some_iff.mp H
    obtain ⟨t249, A340, H⟩ := H
    replace H : (if t249 = true then (if t219 = 0 then (if t222 = 0 then (if t233 = 0 then (if t246 = 0 then (if (t218 != t221) = true then (pollardlaw19_MergeTurned.j0 k t232 t245 true) else (if t217.toList = t220.toList then (pollardlaw19_MergeTurned.j0 k t232 t245 ((t232.length : Int) != (t245.length : Int))) else (pollardlaw19_MergeTurned.j0 k t232 t245 true))) else (pollardlaw19_MergeTurned.j0 k t232 t245 true)) else (pollardlaw19_MergeTurned.j0 k t232 t245 true)) else (pollardlaw19_MergeTurned.j0 k t232 t245 true)) else (pollardlaw19_MergeTurned.j0 k t232 t245 true)) else (pollardlaw19_MergeTurned.j0 k t232 t245 true)) = some r := H
    have A34 := Aside0.mk A340
    clear A340
    by_cases c35 : t249 = true
    · subst c35
      have H1 : (if t219 = 0 then (if t222 = 0 then (if t233 = 0 then (if t246 = 0 then (if (t218 != t221) = true then (pollardlaw19_MergeTurned.j0 k t232 t245 true) else (if t217.toList = t220.toList then (pollardlaw19_MergeTurned.j0 k t232 t245 ((t232.length : Int) != (t245.length : Int))) else (pollardlaw19_MergeTurned.j0 k t232 t245 true))) else (pollardlaw19_MergeTurned.j0 k t232 t245 true)) else (pollardlaw19_MergeTurned.j0 k t232 t245 true)) else (pollardlaw19_MergeTurned.j0 k t232 t245 true)) else (pollardlaw19_MergeTurned.j0 k t232 t245 true)) = some r := by rw [if_pos rfl] at H; exact H
      clear H
      have H := H1
      clear H1
      by_cases c36 : t219 = 0
      · rw [if_pos c36] at H
        have c36b0 : (t219 == 0) = true := beq_iff_eq.mpr c36
        have c36b1 : (t219 != 0) = false := bne_eq_false_iff_eq.mpr c36
        clear c36
        (first | rw [c36b0] | (simp only [i64_w, i32_w]; rw [c36b0]) | skip)
        by_cases c37 : t222 = 0
        · rw [if_pos c37] at H
          have c37b0 : (t222 == 0) = true := beq_iff_eq.mpr c37
          have c37b1 : (t222 != 0) = false := bne_eq_false_iff_eq.mpr c37
          clear c37
          by_cases c38 : t233 = 0
          · rw [if_pos c38] at H
            have c38b0 : (t233 == 0) = true := beq_iff_eq.mpr c38
            have c38b1 : (t233 != 0) = false := bne_eq_false_iff_eq.mpr c38
            clear c38
            by_cases c39 : t246 = 0
            · rw [if_pos c39] at H
              have c39b0 : (t246 == 0) = true := beq_iff_eq.mpr c39
              have c39b1 : (t246 != 0) = false := bne_eq_false_iff_eq.mpr c39
              clear c39
              by_cases c40 : (t218 != t221) = true
              · rw [if_pos c40] at H
                have c40b0 : (t218 != t221) = true := c40
                (try (have c40b1 : decide (t218 = t221) = false := by simpa using c40))
                (try (have c40b2 : (t218 == t221) = false := by simpa using c40))
                (try (have c40b3 : ¬ (t218 = t221) := by simpa using c40))
                clear c40
                have H' := Aside0.mk H
                clear H
                go_wp2_with (first | ((with_reducible refine gate_callee (f := 12) rfl ?_); refine goesL_ (some 64) rfl rfl Tryd.func12 (by kernel_rfl) rfl #[] rfl (by (try simp only [List.map_toArray, List.map_cons, List.map_nil]); first | done | rfl | (simp only [List.length_drop, List.length_take]; rfl)) ?_; (with_reducible refine (pollardlaw19_awake.calls k  true _ A34.out).mono ?_); rintro e w41 ⟨rfl, hb⟩; refine ⟨_, rfl, ?_⟩; have n0_ := Aside0.mk (Kd.V_below (by (with_reducible repeat (first | apply Kd.V_alloc | apply Kd.V_drewN | apply Kd.V_drew)); exact HO225.out) hb); have n1_ := Aside0.mk (Kd.V_below (by (with_reducible repeat (first | apply Kd.V_alloc | apply Kd.V_drewN | apply Kd.V_drew)); exact HO228.out) hb); have n2_ := Aside0.mk (Kd.V_below (by (with_reducible repeat (first | apply Kd.V_alloc | apply Kd.V_drewN | apply Kd.V_drew)); exact HO231.out) hb); have n3_ := Aside0.mk (Kd.S_below (by (with_reducible repeat (first | apply Kd.S_alloc | apply Kd.S_drewN | apply Kd.S_drew)); exact HO235.out) hb); have n4_ := Aside0.mk (Kd.V_below (by (with_reducible repeat (first | apply Kd.V_alloc | apply Kd.V_drewN | apply Kd.V_drew)); exact HO238.out) hb); have n5_ := Aside0.mk (Kd.V_below (by (with_reducible repeat (first | apply Kd.V_alloc | apply Kd.V_drewN | apply Kd.V_drew)); exact HO241.out) hb); have n6_ := Aside0.mk (Kd.V_below (by (with_reducible repeat (first | apply Kd.V_alloc | apply Kd.V_drewN | apply Kd.V_drew)); exact HO244.out) hb); have n7_ := Aside0.mk (Kd.S_below (by (with_reducible repeat (first | apply Kd.S_alloc | apply Kd.S_drewN | apply Kd.S_drew)); exact HO248.out) hb); have n8_ := Aside0.mk (below_step (by repeat (first | (with_reducible first | exact HB.out | apply below_alloc | apply pw_below_drewN | apply below_drew1) | exact HB.out)) hb); clear HO225; clear HO228; clear HO231; clear HO235; clear HO238; clear HO241; clear HO244; clear HO248; clear HB; have HO225 := n0_; have HO228 := n1_; have HO231 := n2_; have HO235 := n3_; have HO238 := n4_; have HO241 := n5_; have HO244 := n6_; have HO248 := n7_; have HB := n8_; clear n0_ n1_ n2_ n3_ n4_ n5_ n6_ n7_ n8_; (try clear hb); (try clear hb2); (try clear hk); (try clear hi)))
                go_meet
                case rel => exact ⟨_, (true), (by first | rfl | (simp; done) | (simp [*]; done)), H', ⟨by first | omega | exact Nat.le_refl _⟩, ⟨by (with_reducible repeat (first | apply Kd.S_alloc | apply Kd.S_drewN | apply Kd.S_drew)); exact Kd.S_mono HO235.out (fun _ hk => hk.2)⟩, ⟨by (with_reducible repeat (first | apply Kd.S_alloc | apply Kd.S_drewN | apply Kd.S_drew)); exact Kd.S_mono HO248.out (fun _ hk => hk.2)⟩, ⟨by repeat (first | (with_reducible first | exact HB.out | apply below_alloc | apply pw_below_drewN | apply below_drew1) | exact HB.out)⟩⟩
              · rw [if_neg c40] at H
                have c40b0 : (t218 != t221) = false := by simpa using c40
                (try (have c40b1 : decide (t218 = t221) = true := by simpa using c40))
                (try (have c40b2 : (t218 == t221) = true := by simpa using c40))
                clear c40
                by_cases c42 : t217.toList = t220.toList
                · rw [if_pos c42] at H
                  have c42b0 : (t217.toList == t220.toList) = true := beq_iff_eq.mpr c42
                  have c42b1 : (t217.toList != t220.toList) = false := bne_eq_false_iff_eq.mpr c42
                  clear c42
                  have H' := Aside0.mk H
                  clear H
                  go_wp2_with (first | ((with_reducible refine gate_callee (f := 12) rfl ?_); refine goesL_ (some 64) rfl rfl Tryd.func12 (by kernel_rfl) rfl #[] rfl (by (try simp only [List.map_toArray, List.map_cons, List.map_nil]); first | done | rfl | (simp only [List.length_drop, List.length_take]; rfl)) ?_; (with_reducible refine (pollardlaw19_awake.calls k  true _ A34.out).mono ?_); rintro e w43 ⟨rfl, hb⟩; refine ⟨_, rfl, ?_⟩; have n0_ := Aside0.mk (Kd.V_below (by (with_reducible repeat (first | apply Kd.V_alloc | apply Kd.V_drewN | apply Kd.V_drew)); exact HO225.out) hb); have n1_ := Aside0.mk (Kd.V_below (by (with_reducible repeat (first | apply Kd.V_alloc | apply Kd.V_drewN | apply Kd.V_drew)); exact HO228.out) hb); have n2_ := Aside0.mk (Kd.V_below (by (with_reducible repeat (first | apply Kd.V_alloc | apply Kd.V_drewN | apply Kd.V_drew)); exact HO231.out) hb); have n3_ := Aside0.mk (Kd.S_below (by (with_reducible repeat (first | apply Kd.S_alloc | apply Kd.S_drewN | apply Kd.S_drew)); exact HO235.out) hb); have n4_ := Aside0.mk (Kd.V_below (by (with_reducible repeat (first | apply Kd.V_alloc | apply Kd.V_drewN | apply Kd.V_drew)); exact HO238.out) hb); have n5_ := Aside0.mk (Kd.V_below (by (with_reducible repeat (first | apply Kd.V_alloc | apply Kd.V_drewN | apply Kd.V_drew)); exact HO241.out) hb); have n6_ := Aside0.mk (Kd.V_below (by (with_reducible repeat (first | apply Kd.V_alloc | apply Kd.V_drewN | apply Kd.V_drew)); exact HO244.out) hb); have n7_ := Aside0.mk (Kd.S_below (by (with_reducible repeat (first | apply Kd.S_alloc | apply Kd.S_drewN | apply Kd.S_drew)); exact HO248.out) hb); have n8_ := Aside0.mk (below_step (by repeat (first | (with_reducible first | exact HB.out | apply below_alloc | apply pw_below_drewN | apply below_drew1) | exact HB.out)) hb); clear HO225; clear HO228; clear HO231; clear HO235; clear HO238; clear HO241; clear HO244; clear HO248; clear HB; have HO225 := n0_; have HO228 := n1_; have HO231 := n2_; have HO235 := n3_; have HO238 := n4_; have HO241 := n5_; have HO244 := n6_; have HO248 := n7_; have HB := n8_; clear n0_ n1_ n2_ n3_ n4_ n5_ n6_ n7_ n8_; (try clear hb); (try clear hb2); (try clear hk); (try clear hi); obtain ⟨Ao44, co44, eo44⟩ := Kd.S_slice HO235.out; subst eo44; obtain ⟨Ao45, co45, eo45⟩ := Kd.S_slice HO248.out; subst eo45))
                  go_meet
                  case rel => exact ⟨_, (((t232.length : Int) != (t245.length : Int))), (by first | rfl | (simp; done) | (simp [*]; done)), H', ⟨by first | omega | exact Nat.le_refl _⟩, ⟨by (with_reducible repeat (first | apply Kd.S_alloc | apply Kd.S_drewN | apply Kd.S_drew)); exact Kd.S_mono HO235.out (fun _ hk => hk.2)⟩, ⟨by (with_reducible repeat (first | apply Kd.S_alloc | apply Kd.S_drewN | apply Kd.S_drew)); exact Kd.S_mono HO248.out (fun _ hk => hk.2)⟩, ⟨by repeat (first | (with_reducible first | exact HB.out | apply below_alloc | apply pw_below_drewN | apply below_drew1) | exact HB.out)⟩⟩
                · rw [if_neg c42] at H
                  have c42b0 : (t217.toList == t220.toList) = false := beq_eq_false_iff_ne.mpr c42
                  have c42b1 : (t217.toList != t220.toList) = true := bne_iff_ne.mpr c42
                  have H' := Aside0.mk H
                  clear H
                  go_wp2_with (first | ((with_reducible refine gate_callee (f := 12) rfl ?_); refine goesL_ (some 64) rfl rfl Tryd.func12 (by kernel_rfl) rfl #[] rfl (by (try simp only [List.map_toArray, List.map_cons, List.map_nil]); first | done | rfl | (simp only [List.length_drop, List.length_take]; rfl)) ?_; (with_reducible refine (pollardlaw19_awake.calls k  true _ A34.out).mono ?_); rintro e w46 ⟨rfl, hb⟩; refine ⟨_, rfl, ?_⟩; have n0_ := Aside0.mk (Kd.V_below (by (with_reducible repeat (first | apply Kd.V_alloc | apply Kd.V_drewN | apply Kd.V_drew)); exact HO225.out) hb); have n1_ := Aside0.mk (Kd.V_below (by (with_reducible repeat (first | apply Kd.V_alloc | apply Kd.V_drewN | apply Kd.V_drew)); exact HO228.out) hb); have n2_ := Aside0.mk (Kd.V_below (by (with_reducible repeat (first | apply Kd.V_alloc | apply Kd.V_drewN | apply Kd.V_drew)); exact HO231.out) hb); have n3_ := Aside0.mk (Kd.S_below (by (with_reducible repeat (first | apply Kd.S_alloc | apply Kd.S_drewN | apply Kd.S_drew)); exact HO235.out) hb); have n4_ := Aside0.mk (Kd.V_below (by (with_reducible repeat (first | apply Kd.V_alloc | apply Kd.V_drewN | apply Kd.V_drew)); exact HO238.out) hb); have n5_ := Aside0.mk (Kd.V_below (by (with_reducible repeat (first | apply Kd.V_alloc | apply Kd.V_drewN | apply Kd.V_drew)); exact HO241.out) hb); have n6_ := Aside0.mk (Kd.V_below (by (with_reducible repeat (first | apply Kd.V_alloc | apply Kd.V_drewN | apply Kd.V_drew)); exact HO244.out) hb); have n7_ := Aside0.mk (Kd.S_below (by (with_reducible repeat (first | apply Kd.S_alloc | apply Kd.S_drewN | apply Kd.S_drew)); exact HO248.out) hb); have n8_ := Aside0.mk (below_step (by repeat (first | (with_reducible first | exact HB.out | apply below_alloc | apply pw_below_drewN | apply below_drew1) | exact HB.out)) hb); clear HO225; clear HO228; clear HO231; clear HO235; clear HO238; clear HO241; clear HO244; clear HO248; clear HB; have HO225 := n0_; have HO228 := n1_; have HO231 := n2_; have HO235 := n3_; have HO238 := n4_; have HO241 := n5_; have HO244 := n6_; have HO248 := n7_; have HB := n8_; clear n0_ n1_ n2_ n3_ n4_ n5_ n6_ n7_ n8_; (try clear hb); (try clear hb2); (try clear hk); (try clear hi)))
                  go_meet
                  case rel => exact ⟨_, (true), (by first | rfl | (simp; done) | (simp [*]; done)), H', ⟨by first | omega | exact Nat.le_refl _⟩, ⟨by (with_reducible repeat (first | apply Kd.S_alloc | apply Kd.S_drewN | apply Kd.S_drew)); exact Kd.S_mono HO235.out (fun _ hk => hk.2)⟩, ⟨by (with_reducible repeat (first | apply Kd.S_alloc | apply Kd.S_drewN | apply Kd.S_drew)); exact Kd.S_mono HO248.out (fun _ hk => hk.2)⟩, ⟨by repeat (first | (with_reducible first | exact HB.out | apply below_alloc | apply pw_below_drewN | apply below_drew1) | exact HB.out)⟩⟩
            · rw [if_neg c39] at H
              have c39b0 : (t246 == 0) = false := beq_eq_false_iff_ne.mpr c39
              have c39b1 : (t246 != 0) = true := bne_iff_ne.mpr c39
              have H' := Aside0.mk H
              clear H
              go_wp2_with (first | ((with_reducible refine gate_callee (f := 12) rfl ?_); refine goesL_ (some 64) rfl rfl Tryd.func12 (by kernel_rfl) rfl #[] rfl (by (try simp only [List.map_toArray, List.map_cons, List.map_nil]); first | done | rfl | (simp only [List.length_drop, List.length_take]; rfl)) ?_; (with_reducible refine (pollardlaw19_awake.calls k  true _ A34.out).mono ?_); rintro e w47 ⟨rfl, hb⟩; refine ⟨_, rfl, ?_⟩; have n0_ := Aside0.mk (Kd.V_below (by (with_reducible repeat (first | apply Kd.V_alloc | apply Kd.V_drewN | apply Kd.V_drew)); exact HO225.out) hb); have n1_ := Aside0.mk (Kd.V_below (by (with_reducible repeat (first | apply Kd.V_alloc | apply Kd.V_drewN | apply Kd.V_drew)); exact HO228.out) hb); have n2_ := Aside0.mk (Kd.V_below (by (with_reducible repeat (first | apply Kd.V_alloc | apply Kd.V_drewN | apply Kd.V_drew)); exact HO231.out) hb); have n3_ := Aside0.mk (Kd.S_below (by (with_reducible repeat (first | apply Kd.S_alloc | apply Kd.S_drewN | apply Kd.S_drew)); exact HO235.out) hb); have n4_ := Aside0.mk (Kd.V_below (by (with_reducible repeat (first | apply Kd.V_alloc | apply Kd.V_drewN | apply Kd.V_drew)); exact HO238.out) hb); have n5_ := Aside0.mk (Kd.V_below (by (with_reducible repeat (first | apply Kd.V_alloc | apply Kd.V_drewN | apply Kd.V_drew)); exact HO241.out) hb); have n6_ := Aside0.mk (Kd.V_below (by (with_reducible repeat (first | apply Kd.V_alloc | apply Kd.V_drewN | apply Kd.V_drew)); exact HO244.out) hb); have n7_ := Aside0.mk (Kd.S_below (by (with_reducible repeat (first | apply Kd.S_alloc | apply Kd.S_drewN | apply Kd.S_drew)); exact HO248.out) hb); have n8_ := Aside0.mk (below_step (by repeat (first | (with_reducible first | exact HB.out | apply below_alloc | apply pw_below_drewN | apply below_drew1) | exact HB.out)) hb); clear HO225; clear HO228; clear HO231; clear HO235; clear HO238; clear HO241; clear HO244; clear HO248; clear HB; have HO225 := n0_; have HO228 := n1_; have HO231 := n2_; have HO235 := n3_; have HO238 := n4_; have HO241 := n5_; have HO244 := n6_; have HO248 := n7_; have HB := n8_; clear n0_ n1_ n2_ n3_ n4_ n5_ n6_ n7_ n8_; (try clear hb); (try clear hb2); (try clear hk); (try clear hi)))
              go_meet
              case rel => exact ⟨_, (true), (by first | rfl | (simp; done) | (simp [*]; done)), H', ⟨by first | omega | exact Nat.le_refl _⟩, ⟨by (with_reducible repeat (first | apply Kd.S_alloc | apply Kd.S_drewN | apply Kd.S_drew)); exact Kd.S_mono HO235.out (fun _ hk => hk.2)⟩, ⟨by (with_reducible repeat (first | apply Kd.S_alloc | apply Kd.S_drewN | apply Kd.S_drew)); exact Kd.S_mono HO248.out (fun _ hk => hk.2)⟩, ⟨by repeat (first | (with_reducible first | exact HB.out | apply below_alloc | apply pw_below_drewN | apply below_drew1) | exact HB.out)⟩⟩
          · rw [if_neg c38] at H
            have c38b0 : (t233 == 0) = false := beq_eq_false_iff_ne.mpr c38
            have c38b1 : (t233 != 0) = true := bne_iff_ne.mpr c38
            have H' := Aside0.mk H
            clear H
            go_wp2_with (first | ((with_reducible refine gate_callee (f := 12) rfl ?_); refine goesL_ (some 64) rfl rfl Tryd.func12 (by kernel_rfl) rfl #[] rfl (by (try simp only [List.map_toArray, List.map_cons, List.map_nil]); first | done | rfl | (simp only [List.length_drop, List.length_take]; rfl)) ?_; (with_reducible refine (pollardlaw19_awake.calls k  true _ A34.out).mono ?_); rintro e w48 ⟨rfl, hb⟩; refine ⟨_, rfl, ?_⟩; have n0_ := Aside0.mk (Kd.V_below (by (with_reducible repeat (first | apply Kd.V_alloc | apply Kd.V_drewN | apply Kd.V_drew)); exact HO225.out) hb); have n1_ := Aside0.mk (Kd.V_below (by (with_reducible repeat (first | apply Kd.V_alloc | apply Kd.V_drewN | apply Kd.V_drew)); exact HO228.out) hb); have n2_ := Aside0.mk (Kd.V_below (by (with_reducible repeat (first | apply Kd.V_alloc | apply Kd.V_drewN | apply Kd.V_drew)); exact HO231.out) hb); have n3_ := Aside0.mk (Kd.S_below (by (with_reducible repeat (first | apply Kd.S_alloc | apply Kd.S_drewN | apply Kd.S_drew)); exact HO235.out) hb); have n4_ := Aside0.mk (Kd.V_below (by (with_reducible repeat (first | apply Kd.V_alloc | apply Kd.V_drewN | apply Kd.V_drew)); exact HO238.out) hb); have n5_ := Aside0.mk (Kd.V_below (by (with_reducible repeat (first | apply Kd.V_alloc | apply Kd.V_drewN | apply Kd.V_drew)); exact HO241.out) hb); have n6_ := Aside0.mk (Kd.V_below (by (with_reducible repeat (first | apply Kd.V_alloc | apply Kd.V_drewN | apply Kd.V_drew)); exact HO244.out) hb); have n7_ := Aside0.mk (Kd.S_below (by (with_reducible repeat (first | apply Kd.S_alloc | apply Kd.S_drewN | apply Kd.S_drew)); exact HO248.out) hb); have n8_ := Aside0.mk (below_step (by repeat (first | (with_reducible first | exact HB.out | apply below_alloc | apply pw_below_drewN | apply below_drew1) | exact HB.out)) hb); clear HO225; clear HO228; clear HO231; clear HO235; clear HO238; clear HO241; clear HO244; clear HO248; clear HB; have HO225 := n0_; have HO228 := n1_; have HO231 := n2_; have HO235 := n3_; have HO238 := n4_; have HO241 := n5_; have HO244 := n6_; have HO248 := n7_; have HB := n8_; clear n0_ n1_ n2_ n3_ n4_ n5_ n6_ n7_ n8_; (try clear hb); (try clear hb2); (try clear hk); (try clear hi)))
            go_meet
            case rel => exact ⟨_, (true), (by first | rfl | (simp; done) | (simp [*]; done)), H', ⟨by first | omega | exact Nat.le_refl _⟩, ⟨by (with_reducible repeat (first | apply Kd.S_alloc | apply Kd.S_drewN | apply Kd.S_drew)); exact Kd.S_mono HO235.out (fun _ hk => hk.2)⟩, ⟨by (with_reducible repeat (first | apply Kd.S_alloc | apply Kd.S_drewN | apply Kd.S_drew)); exact Kd.S_mono HO248.out (fun _ hk => hk.2)⟩, ⟨by repeat (first | (with_reducible first | exact HB.out | apply below_alloc | apply pw_below_drewN | apply below_drew1) | exact HB.out)⟩⟩
        · rw [if_neg c37] at H
          have c37b0 : (t222 == 0) = false := beq_eq_false_iff_ne.mpr c37
          have c37b1 : (t222 != 0) = true := bne_iff_ne.mpr c37
          have H' := Aside0.mk H
          clear H
          go_wp2_with (first | ((with_reducible refine gate_callee (f := 12) rfl ?_); refine goesL_ (some 64) rfl rfl Tryd.func12 (by kernel_rfl) rfl #[] rfl (by (try simp only [List.map_toArray, List.map_cons, List.map_nil]); first | done | rfl | (simp only [List.length_drop, List.length_take]; rfl)) ?_; (with_reducible refine (pollardlaw19_awake.calls k  true _ A34.out).mono ?_); rintro e w49 ⟨rfl, hb⟩; refine ⟨_, rfl, ?_⟩; have n0_ := Aside0.mk (Kd.V_below (by (with_reducible repeat (first | apply Kd.V_alloc | apply Kd.V_drewN | apply Kd.V_drew)); exact HO225.out) hb); have n1_ := Aside0.mk (Kd.V_below (by (with_reducible repeat (first | apply Kd.V_alloc | apply Kd.V_drewN | apply Kd.V_drew)); exact HO228.out) hb); have n2_ := Aside0.mk (Kd.V_below (by (with_reducible repeat (first | apply Kd.V_alloc | apply Kd.V_drewN | apply Kd.V_drew)); exact HO231.out) hb); have n3_ := Aside0.mk (Kd.S_below (by (with_reducible repeat (first | apply Kd.S_alloc | apply Kd.S_drewN | apply Kd.S_drew)); exact HO235.out) hb); have n4_ := Aside0.mk (Kd.V_below (by (with_reducible repeat (first | apply Kd.V_alloc | apply Kd.V_drewN | apply Kd.V_drew)); exact HO238.out) hb); have n5_ := Aside0.mk (Kd.V_below (by (with_reducible repeat (first | apply Kd.V_alloc | apply Kd.V_drewN | apply Kd.V_drew)); exact HO241.out) hb); have n6_ := Aside0.mk (Kd.V_below (by (with_reducible repeat (first | apply Kd.V_alloc | apply Kd.V_drewN | apply Kd.V_drew)); exact HO244.out) hb); have n7_ := Aside0.mk (Kd.S_below (by (with_reducible repeat (first | apply Kd.S_alloc | apply Kd.S_drewN | apply Kd.S_drew)); exact HO248.out) hb); have n8_ := Aside0.mk (below_step (by repeat (first | (with_reducible first | exact HB.out | apply below_alloc | apply pw_below_drewN | apply below_drew1) | exact HB.out)) hb); clear HO225; clear HO228; clear HO231; clear HO235; clear HO238; clear HO241; clear HO244; clear HO248; clear HB; have HO225 := n0_; have HO228 := n1_; have HO231 := n2_; have HO235 := n3_; have HO238 := n4_; have HO241 := n5_; have HO244 := n6_; have HO248 := n7_; have HB := n8_; clear n0_ n1_ n2_ n3_ n4_ n5_ n6_ n7_ n8_; (try clear hb); (try clear hb2); (try clear hk); (try clear hi)))
          go_meet
          case rel => exact ⟨_, (true), (by first | rfl | (simp; done) | (simp [*]; done)), H', ⟨by first | omega | exact Nat.le_refl _⟩, ⟨by (with_reducible repeat (first | apply Kd.S_alloc | apply Kd.S_drewN | apply Kd.S_drew)); exact Kd.S_mono HO235.out (fun _ hk => hk.2)⟩, ⟨by (with_reducible repeat (first | apply Kd.S_alloc | apply Kd.S_drewN | apply Kd.S_drew)); exact Kd.S_mono HO248.out (fun _ hk => hk.2)⟩, ⟨by repeat (first | (with_reducible first | exact HB.out | apply below_alloc | apply pw_below_drewN | apply below_drew1) | exact HB.out)⟩⟩
      · rw [if_neg c36] at H
        have c36b0 : (t219 == 0) = false := beq_eq_false_iff_ne.mpr c36
        have c36b1 : (t219 != 0) = true := bne_iff_ne.mpr c36
        (first | rw [c36b0] | (simp only [i64_w, i32_w]; rw [c36b0]) | skip)
        have H' := Aside0.mk H
        clear H
        go_wp2_with (first | ((with_reducible refine gate_callee (f := 12) rfl ?_); refine goesL_ (some 64) rfl rfl Tryd.func12 (by kernel_rfl) rfl #[] rfl (by (try simp only [List.map_toArray, List.map_cons, List.map_nil]); first | done | rfl | (simp only [List.length_drop, List.length_take]; rfl)) ?_; (with_reducible refine (pollardlaw19_awake.calls k  true _ A34.out).mono ?_); rintro e w50 ⟨rfl, hb⟩; refine ⟨_, rfl, ?_⟩; have n0_ := Aside0.mk (Kd.V_below (by (with_reducible repeat (first | apply Kd.V_alloc | apply Kd.V_drewN | apply Kd.V_drew)); exact HO225.out) hb); have n1_ := Aside0.mk (Kd.V_below (by (with_reducible repeat (first | apply Kd.V_alloc | apply Kd.V_drewN | apply Kd.V_drew)); exact HO228.out) hb); have n2_ := Aside0.mk (Kd.V_below (by (with_reducible repeat (first | apply Kd.V_alloc | apply Kd.V_drewN | apply Kd.V_drew)); exact HO231.out) hb); have n3_ := Aside0.mk (Kd.S_below (by (with_reducible repeat (first | apply Kd.S_alloc | apply Kd.S_drewN | apply Kd.S_drew)); exact HO235.out) hb); have n4_ := Aside0.mk (Kd.V_below (by (with_reducible repeat (first | apply Kd.V_alloc | apply Kd.V_drewN | apply Kd.V_drew)); exact HO238.out) hb); have n5_ := Aside0.mk (Kd.V_below (by (with_reducible repeat (first | apply Kd.V_alloc | apply Kd.V_drewN | apply Kd.V_drew)); exact HO241.out) hb); have n6_ := Aside0.mk (Kd.V_below (by (with_reducible repeat (first | apply Kd.V_alloc | apply Kd.V_drewN | apply Kd.V_drew)); exact HO244.out) hb); have n7_ := Aside0.mk (Kd.S_below (by (with_reducible repeat (first | apply Kd.S_alloc | apply Kd.S_drewN | apply Kd.S_drew)); exact HO248.out) hb); have n8_ := Aside0.mk (below_step (by repeat (first | (with_reducible first | exact HB.out | apply below_alloc | apply pw_below_drewN | apply below_drew1) | exact HB.out)) hb); clear HO225; clear HO228; clear HO231; clear HO235; clear HO238; clear HO241; clear HO244; clear HO248; clear HB; have HO225 := n0_; have HO228 := n1_; have HO231 := n2_; have HO235 := n3_; have HO238 := n4_; have HO241 := n5_; have HO244 := n6_; have HO248 := n7_; have HB := n8_; clear n0_ n1_ n2_ n3_ n4_ n5_ n6_ n7_ n8_; (try clear hb); (try clear hb2); (try clear hk); (try clear hi)))
        go_meet
        case rel => exact ⟨_, (true), (by first | rfl | (simp; done) | (simp [*]; done)), H', ⟨by first | omega | exact Nat.le_refl _⟩, ⟨by (with_reducible repeat (first | apply Kd.S_alloc | apply Kd.S_drewN | apply Kd.S_drew)); exact Kd.S_mono HO235.out (fun _ hk => hk.2)⟩, ⟨by (with_reducible repeat (first | apply Kd.S_alloc | apply Kd.S_drewN | apply Kd.S_drew)); exact Kd.S_mono HO248.out (fun _ hk => hk.2)⟩, ⟨by repeat (first | (with_reducible first | exact HB.out | apply below_alloc | apply pw_below_drewN | apply below_drew1) | exact HB.out)⟩⟩
    · replace c35 := Bool.eq_false_iff.mpr c35
      subst c35
      have H1 : (pollardlaw19_MergeTurned.j0 k t232 t245 true) = some r := by rw [if_neg (show ¬ (false = true) by decide)] at H; exact H
      clear H
      have H := H1
      clear H1
      have H' := Aside0.mk H
      clear H
      go_wp2_with (first | ((with_reducible refine gate_callee (f := 12) rfl ?_); refine goesL_ (some 64) rfl rfl Tryd.func12 (by kernel_rfl) rfl #[] rfl (by (try simp only [List.map_toArray, List.map_cons, List.map_nil]); first | done | rfl | (simp only [List.length_drop, List.length_take]; rfl)) ?_; (with_reducible refine (pollardlaw19_awake.calls k  false _ A34.out).mono ?_); rintro e w51 ⟨rfl, hb⟩; refine ⟨_, rfl, ?_⟩; have n0_ := Aside0.mk (Kd.V_below (by (with_reducible repeat (first | apply Kd.V_alloc | apply Kd.V_drewN | apply Kd.V_drew)); exact HO225.out) hb); have n1_ := Aside0.mk (Kd.V_below (by (with_reducible repeat (first | apply Kd.V_alloc | apply Kd.V_drewN | apply Kd.V_drew)); exact HO228.out) hb); have n2_ := Aside0.mk (Kd.V_below (by (with_reducible repeat (first | apply Kd.V_alloc | apply Kd.V_drewN | apply Kd.V_drew)); exact HO231.out) hb); have n3_ := Aside0.mk (Kd.S_below (by (with_reducible repeat (first | apply Kd.S_alloc | apply Kd.S_drewN | apply Kd.S_drew)); exact HO235.out) hb); have n4_ := Aside0.mk (Kd.V_below (by (with_reducible repeat (first | apply Kd.V_alloc | apply Kd.V_drewN | apply Kd.V_drew)); exact HO238.out) hb); have n5_ := Aside0.mk (Kd.V_below (by (with_reducible repeat (first | apply Kd.V_alloc | apply Kd.V_drewN | apply Kd.V_drew)); exact HO241.out) hb); have n6_ := Aside0.mk (Kd.V_below (by (with_reducible repeat (first | apply Kd.V_alloc | apply Kd.V_drewN | apply Kd.V_drew)); exact HO244.out) hb); have n7_ := Aside0.mk (Kd.S_below (by (with_reducible repeat (first | apply Kd.S_alloc | apply Kd.S_drewN | apply Kd.S_drew)); exact HO248.out) hb); have n8_ := Aside0.mk (below_step (by repeat (first | (with_reducible first | exact HB.out | apply below_alloc | apply pw_below_drewN | apply below_drew1) | exact HB.out)) hb); clear HO225; clear HO228; clear HO231; clear HO235; clear HO238; clear HO241; clear HO244; clear HO248; clear HB; have HO225 := n0_; have HO228 := n1_; have HO231 := n2_; have HO235 := n3_; have HO238 := n4_; have HO241 := n5_; have HO244 := n6_; have HO248 := n7_; have HB := n8_; clear n0_ n1_ n2_ n3_ n4_ n5_ n6_ n7_ n8_; (try clear hb); (try clear hb2); (try clear hk); (try clear hi)))
      go_meet
      case rel => exact ⟨_, (true), (by first | rfl | (simp; done) | (simp [*]; done)), H', ⟨by first | omega | exact Nat.le_refl _⟩, ⟨by (with_reducible repeat (first | apply Kd.S_alloc | apply Kd.S_drewN | apply Kd.S_drew)); exact Kd.S_mono HO235.out (fun _ hk => hk.2)⟩, ⟨by (with_reducible repeat (first | apply Kd.S_alloc | apply Kd.S_drewN | apply Kd.S_drew)); exact Kd.S_mono HO248.out (fun _ hk => hk.2)⟩, ⟨by repeat (first | (with_reducible first | exact HB.out | apply below_alloc | apply pw_below_drewN | apply below_drew1) | exact HB.out)⟩⟩
  case rest =>
    clear HC17
    try clear c1
    try clear c2
    try clear p2
    try clear c3
    try clear c4
    try clear c6
    try clear c9
    try clear c10
    try clear c12
    try clear c14
    try clear c15
    try clear c35
    try clear c36
    try clear c36b0
    try clear c36b1
    try clear c37
    try clear c37b0
    try clear c37b1
    try clear c38
    try clear c38b0
    try clear c38b1
    try clear c39
    try clear c39b0
    try clear c39b1
    try clear c40
    try clear c40b0
    try clear c40b1
    try clear c40b2
    try clear c42
    try clear c42b0
    try clear c42b1
    obtain ⟨kq, x98_16, rfl, HA, HJ16, HO_16, HO_18, HB⟩ := hcut
    cases kq with
    | zero => exact absurd HA.out (by simp [pollardlaw19_MergeTurned.j0])
    | succ kj16 =>
      have H := HA.out
      clear HA
      simp only [pollardlaw19_MergeTurned.j0] at H
      by_cases c52 : x98_16 = true
      · subst c52
        have H1 : (none) = some r := by rw [if_pos rfl] at H; exact H
        clear H
        have H := H1
        clear H1
        exact absurd H (by simp)
      · replace c52 := Bool.eq_false_iff.mpr c52
        subst c52
        have H1 : (pollardlaw19_MergeTurned.l0 kj16 t232 t245 0) = some r := by rw [if_neg (show ¬ (false = true) by decide)] at H; exact H
        clear H
        have H := H1
        clear H1
        have H' := Aside0.mk H
        clear H
        go_wp2
        go_loopg [20] kj16 (fun kq v20 w' => ∃ (x20_2 : Int), v20 = .int .i64 x20_2 ∧ Aside0 (pollardlaw19_MergeTurned.l0 kq t232 t245 x20_2 = some r) ∧ Aside0 (kq ≤ kj16) ∧ Aside0 (Kd.S k32 32 w' w.heap.size (fun k_ => some k_ ≠ (v247 : Value).ownBlock) v234 t232) ∧ Aside0 (Kd.S k32 32 w' w.heap.size (fun k_ => some k_ ≠ (v234 : Value).ownBlock) v247 t245) ∧ Aside0 (Below w.heap.size w w'))
        case atStart => exact ⟨(0), (by first | rfl | (simp; done) | (simp [*]; done)), H', ⟨Nat.le_refl _⟩, ⟨by (with_reducible repeat (first | apply Kd.S_alloc | apply Kd.S_drewN | apply Kd.S_drew)); exact HO_16.out⟩, ⟨by (with_reducible repeat (first | apply Kd.S_alloc | apply Kd.S_drewN | apply Kd.S_drew)); exact HO_18.out⟩, ⟨by repeat (first | (with_reducible first | exact HB.out | apply below_alloc | apply pw_below_drewN | apply below_drew1) | exact HB.out)⟩⟩
        case round =>
          clear H'
          try clear c1
          try clear c2
          try clear p2
          try clear c3
          try clear c4
          try clear c5
          try clear c6
          try clear c9
          try clear c10
          try clear c12
          try clear c14
          try clear c15
          try clear c35
          try clear c36
          try clear c36b0
          try clear c36b1
          try clear c37
          try clear c37b0
          try clear c37b1
          try clear c38
          try clear c38b0
          try clear c38b1
          try clear c39
          try clear c39b0
          try clear c39b1
          try clear c40
          try clear c40b0
          try clear c40b1
          try clear c40b2
          try clear c42
          try clear c42b0
          try clear c42b1
          try clear c52
          try clear p2
          obtain ⟨x20_2, rfl, HA, HK2, HO_16, HO_18, HB⟩ := hrel
          cases gk with
          | zero => exact absurd HA.out (by simp [pollardlaw19_MergeTurned.l0])
          | succ k2 =>
            have H := HA.out
            clear HA
            simp only [pollardlaw19_MergeTurned.l0] at H
            by_cases c53 : x20_2 < (t232.length : Int)
            · rw [if_pos c53] at H
              have c53b0 : decide (x20_2 < (t232.length : Int)) = true := decide_eq_true c53
              clear c53
              by_cases c54 : 0 ≤ x20_2
              · rw [if_pos c54] at H
                have c54b0 : decide (0 ≤ x20_2) = true := decide_eq_true c54
                clear c54
                have HC55 := Aside0.mk H
                clear H
                obtain ⟨Ao56, co56, eo56⟩ := Kd.S_slice HO_16.out
                subst eo56
                have p250 : 0 ≤ (x20_2 : Int) := of_decide_eq_true (by first | (with_reducible assumption) | assumption)
                have q250 : x20_2 < (t232.length : Int) := of_decide_eq_true (by first | (with_reducible assumption) | assumption)
                obtain ⟨ad250, A250_1, c250_1, A250_2, c250_2, A250_3, c250_3, e250, hx250_0, hx250_1, hx250_2, hx250_3, hl250_1, hi250_1, hl250_2, hi250_2, hl250_3, hi250_3⟩ := at_T32 (Kd.S_reads' HO_16.out).2.2 x20_2 p250 q250
                cases e250
                obtain ⟨ce250, hce250, hMe250, hcc250⟩ := Kd.S_get HO_16.out z32 x20_2 p250 (by first | exact q250 | exact of_decide_eq_true (by first | (with_reducible assumption) | assumption) | (have e_ := (Kd.S_reads' HO_16.out).1; omega))
                obtain ⟨ve250_1, ve250_2, ve250_3, rfl, ge250_1, ge250_2, ge250_3⟩ := k32_openM hMe250
                have hv250_1 := hcc250 1 _ rfl
                rw [add_field _ _ 1 (by omega)] at hv250_1
                replace hv250_1 := Option.some.inj (hv250_1.symm.trans hx250_1)
                rw [hv250_1] at ge250_1
                have HL250_1 := Aside0.mk (show Kd.R Kd.string 9 _ _ _ _ ((rd_T32 t232 x20_2).f1) from ge250_1)
                clear hv250_1 ge250_1
                have hv250_2 := hcc250 2 _ rfl
                rw [add_field _ _ 2 (by omega)] at hv250_2
                replace hv250_2 := Option.some.inj (hv250_2.symm.trans hx250_2)
                rw [hv250_2] at ge250_2
                have HL250_2 := Aside0.mk (show Kd.R Kd.string 9 _ _ _ _ ((rd_T32 t232 x20_2).f2) from ge250_2)
                clear hv250_2 ge250_2
                have hv250_3 := hcc250 3 _ rfl
                rw [add_field _ _ 3 (by omega)] at hv250_3
                replace hv250_3 := Option.some.inj (hv250_3.symm.trans hx250_3)
                rw [hv250_3] at ge250_3
                have HL250_3 := Aside0.mk (show Kd.R Kd.string 9 _ _ _ _ ((rd_T32 t232 x20_2).f3) from ge250_3)
                clear hv250_3 ge250_3
                clear hcc250 hce250
                have HR250_1 := Aside0.mk hi250_1
                have HC250_1 := Aside0.mk hl250_1
                clear hi250_1 hl250_1
                have HR250_2 := Aside0.mk hi250_2
                have HC250_2 := Aside0.mk hl250_2
                clear hi250_2 hl250_2
                have HR250_3 := Aside0.mk hi250_3
                have HC250_3 := Aside0.mk hl250_3
                clear hi250_3 hl250_3
                replace p250 := eq_true p250
                replace q250 := eq_true q250
                go_upto_region 12 with (fail)
                go_cut [115] (fun v115 wc => ∃ (kq : Nat) (x115_54 : Bool), v115 = .bool x115_54 ∧ Aside0 (pollardlaw19_MergeTurned.j2 kq t232 t245 x20_2 ((rd_T32 t232 x20_2).f0) x115_54 = some r) ∧ Aside0 (kq ≤ k2) ∧ Aside0 (Kd.S k32 32 wc w.heap.size (fun k_ => some k_ ≠ (v247 : Value).ownBlock) (.slice (some ad250) t232.length co56) t232) ∧ Aside0 (Kd.S k32 32 wc w.heap.size (fun k_ => some k_ ≠ ((.slice (some ad250) t232.length co56) : Value).ownBlock) v247 t245) ∧ Aside0 (Kd.C Kd.string wc A250_1 ((rd_T32 t232 x20_2).f1).length ((rd_T32 t232 x20_2).f1)) ∧ Aside0 (Kd.C Kd.string wc A250_2 ((rd_T32 t232 x20_2).f2).length ((rd_T32 t232 x20_2).f2)) ∧ Aside0 (Kd.C Kd.string wc A250_3 ((rd_T32 t232 x20_2).f3).length ((rd_T32 t232 x20_2).f3)) ∧ Aside0 (Below w.heap.size w wc))
                case first =>
                  have H := HC55.out
                  clear HC55
                  by_cases c57 : ((rd_T32 t232 x20_2).f0) = 2
                  · rw [if_pos c57] at H
                    have c57b0 : (((rd_T32 t232 x20_2).f0) == 2) = true := beq_iff_eq.mpr c57
                    have c57b1 : (((rd_T32 t232 x20_2).f0) != 2) = false := bne_eq_false_iff_eq.mpr c57
                    clear c57
                    (first | rw [c57b0] | (simp only [i64_w, i32_w]; rw [c57b0]) | skip)
                    have H' := Aside0.mk H
                    clear H
                    go_wp2
                    go_meet
                    case rel => exact ⟨_, (true), (by first | rfl | (simp; done) | (simp [*]; done)), H', ⟨by have := HJ16.out; have := HK2.out; first | omega | exact Nat.le_refl _⟩, ⟨by (with_reducible repeat (first | apply Kd.S_alloc | apply Kd.S_drewN | apply Kd.S_drew)); exact HO_16.out⟩, ⟨by (with_reducible repeat (first | apply Kd.S_alloc | apply Kd.S_drewN | apply Kd.S_drew)); exact HO_18.out⟩, ⟨by repeat (first | (with_reducible exact HR250_1.out) | (with_reducible refine Kd.C_alloc ?_ _) | (with_reducible refine Kd.C_drewN ?_ _) | (with_reducible refine Kd.C_drew ?_) | exact HR250_1.out)⟩, ⟨by repeat (first | (with_reducible exact HR250_2.out) | (with_reducible refine Kd.C_alloc ?_ _) | (with_reducible refine Kd.C_drewN ?_ _) | (with_reducible refine Kd.C_drew ?_) | exact HR250_2.out)⟩, ⟨by repeat (first | (with_reducible exact HR250_3.out) | (with_reducible refine Kd.C_alloc ?_ _) | (with_reducible refine Kd.C_drewN ?_ _) | (with_reducible refine Kd.C_drew ?_) | exact HR250_3.out)⟩, ⟨by repeat (first | (with_reducible first | exact HB.out | apply below_alloc | apply pw_below_drewN | apply below_drew1) | exact HB.out)⟩⟩
                  · rw [if_neg c57] at H
                    have c57b0 : (((rd_T32 t232 x20_2).f0) == 2) = false := beq_eq_false_iff_ne.mpr c57
                    have c57b1 : (((rd_T32 t232 x20_2).f0) != 2) = true := bne_iff_ne.mpr c57
                    (first | rw [c57b0] | (simp only [i64_w, i32_w]; rw [c57b0]) | skip)
                    have H' := Aside0.mk H
                    clear H
                    go_wp2
                    go_meet
                    case rel => exact ⟨_, ((((rd_T32 t232 x20_2).f0) == 3)), (by first | rfl | (simp; done) | (simp [*]; done)), H', ⟨by have := HJ16.out; have := HK2.out; first | omega | exact Nat.le_refl _⟩, ⟨by (with_reducible repeat (first | apply Kd.S_alloc | apply Kd.S_drewN | apply Kd.S_drew)); exact HO_16.out⟩, ⟨by (with_reducible repeat (first | apply Kd.S_alloc | apply Kd.S_drewN | apply Kd.S_drew)); exact HO_18.out⟩, ⟨by repeat (first | (with_reducible exact HR250_1.out) | (with_reducible refine Kd.C_alloc ?_ _) | (with_reducible refine Kd.C_drewN ?_ _) | (with_reducible refine Kd.C_drew ?_) | exact HR250_1.out)⟩, ⟨by repeat (first | (with_reducible exact HR250_2.out) | (with_reducible refine Kd.C_alloc ?_ _) | (with_reducible refine Kd.C_drewN ?_ _) | (with_reducible refine Kd.C_drew ?_) | exact HR250_2.out)⟩, ⟨by repeat (first | (with_reducible exact HR250_3.out) | (with_reducible refine Kd.C_alloc ?_ _) | (with_reducible refine Kd.C_drewN ?_ _) | (with_reducible refine Kd.C_drew ?_) | exact HR250_3.out)⟩, ⟨by repeat (first | (with_reducible first | exact HB.out | apply below_alloc | apply pw_below_drewN | apply below_drew1) | exact HB.out)⟩⟩
                case rest =>
                  clear HC55
                  try clear c1
                  try clear c2
                  try clear p2
                  try clear q2
                  try clear hx2
                  try clear c3
                  try clear c4
                  try clear c5
                  try clear c6
                  try clear c9
                  try clear c10
                  try clear c12
                  try clear c14
                  try clear c15
                  try clear c25
                  try clear p25
                  try clear q25
                  try clear hx25
                  try clear c35
                  try clear c36
                  try clear c36b0
                  try clear c36b1
                  try clear c37
                  try clear c37b0
                  try clear c37b1
                  try clear c38
                  try clear c38b0
                  try clear c38b1
                  try clear c39
                  try clear c39b0
                  try clear c39b1
                  try clear c40
                  try clear c40b0
                  try clear c40b1
                  try clear c40b2
                  try clear c42
                  try clear c42b0
                  try clear c42b1
                  try clear c52
                  try clear c53
                  try clear c53b0
                  try clear c54
                  try clear c54b0
                  try clear c57
                  try clear c57b0
                  try clear c57b1
                  try clear hx250_0
                  try clear hx250_1
                  try clear hx250_2
                  try clear hx250_3
                  try clear p2
                  try clear p250
                  try clear q250
                  obtain ⟨kq, x115_54, rfl, HA, HJ54, HO_16, HO_18, HR250_1, HR250_2, HR250_3, HB⟩ := hcut
                  cases kq with
                  | zero => exact absurd HA.out (by simp [pollardlaw19_MergeTurned.j2])
                  | succ kj54 =>
                    have H := HA.out
                    clear HA
                    simp only [pollardlaw19_MergeTurned.j2] at H
                    have HC58 := Aside0.mk H
                    clear H
                    go_upto_if 115 with (fail)
                    go_cut [21] (fun v21 wc => ∃ (kq : Nat) (x21_57 : Int), v21 = .int .i64 x21_57 ∧ Aside0 (pollardlaw19_MergeTurned.j3 kq t232 t245 x20_2 x21_57 = some r) ∧ Aside0 (kq ≤ kj54) ∧ Aside0 (Kd.S k32 32 wc w.heap.size (fun k_ => some k_ ≠ (v247 : Value).ownBlock) (.slice (some ad250) t232.length co56) t232) ∧ Aside0 (Kd.S k32 32 wc w.heap.size (fun k_ => some k_ ≠ ((.slice (some ad250) t232.length co56) : Value).ownBlock) v247 t245) ∧ Aside0 (Kd.C Kd.string wc A250_1 ((rd_T32 t232 x20_2).f1).length ((rd_T32 t232 x20_2).f1)) ∧ Aside0 (Kd.C Kd.string wc A250_2 ((rd_T32 t232 x20_2).f2).length ((rd_T32 t232 x20_2).f2)) ∧ Aside0 (Kd.C Kd.string wc A250_3 ((rd_T32 t232 x20_2).f3).length ((rd_T32 t232 x20_2).f3)) ∧ Aside0 (Below w.heap.size w wc))
                    case first =>
                      have H := HC58.out
                      clear HC58
                      by_cases c59 : x115_54 = true
                      · subst c59
                        have H1 : (pollardlaw19_MergeTurned.j3 kj54 t232 t245 x20_2 (wrap64 (5 - ((rd_T32 t232 x20_2).f0)))) = some r := by rw [if_pos rfl] at H; exact H
                        clear H
                        have H := H1
                        clear H1
                        have H' := Aside0.mk H
                        clear H
                        go_wp2
                        go_meet
                        case rel => exact ⟨_, (wrap64 (5 - ((rd_T32 t232 x20_2).f0))), (by first | rfl | (simp; done) | (simp [*]; done)), H', ⟨by have := HJ16.out; have := HK2.out; have := HJ54.out; first | omega | exact Nat.le_refl _⟩, ⟨by (with_reducible repeat (first | apply Kd.S_alloc | apply Kd.S_drewN | apply Kd.S_drew)); exact HO_16.out⟩, ⟨by (with_reducible repeat (first | apply Kd.S_alloc | apply Kd.S_drewN | apply Kd.S_drew)); exact HO_18.out⟩, ⟨by repeat (first | (with_reducible exact HR250_1.out) | (with_reducible refine Kd.C_alloc ?_ _) | (with_reducible refine Kd.C_drewN ?_ _) | (with_reducible refine Kd.C_drew ?_) | exact HR250_1.out)⟩, ⟨by repeat (first | (with_reducible exact HR250_2.out) | (with_reducible refine Kd.C_alloc ?_ _) | (with_reducible refine Kd.C_drewN ?_ _) | (with_reducible refine Kd.C_drew ?_) | exact HR250_2.out)⟩, ⟨by repeat (first | (with_reducible exact HR250_3.out) | (with_reducible refine Kd.C_alloc ?_ _) | (with_reducible refine Kd.C_drewN ?_ _) | (with_reducible refine Kd.C_drew ?_) | exact HR250_3.out)⟩, ⟨by repeat (first | (with_reducible first | exact HB.out | apply below_alloc | apply pw_below_drewN | apply below_drew1) | exact HB.out)⟩⟩
                      · replace c59 := Bool.eq_false_iff.mpr c59
                        subst c59
                        have H1 : (pollardlaw19_MergeTurned.j3 kj54 t232 t245 x20_2 ((rd_T32 t232 x20_2).f0)) = some r := by rw [if_neg (show ¬ (false = true) by decide)] at H; exact H
                        clear H
                        have H := H1
                        clear H1
                        have H' := Aside0.mk H
                        clear H
                        go_wp2
                        go_meet
                        case rel => exact ⟨_, (((rd_T32 t232 x20_2).f0)), (by first | rfl | (simp; done) | (simp [*]; done)), H', ⟨by have := HJ16.out; have := HK2.out; have := HJ54.out; first | omega | exact Nat.le_refl _⟩, ⟨by (with_reducible repeat (first | apply Kd.S_alloc | apply Kd.S_drewN | apply Kd.S_drew)); exact HO_16.out⟩, ⟨by (with_reducible repeat (first | apply Kd.S_alloc | apply Kd.S_drewN | apply Kd.S_drew)); exact HO_18.out⟩, ⟨by repeat (first | (with_reducible exact HR250_1.out) | (with_reducible refine Kd.C_alloc ?_ _) | (with_reducible refine Kd.C_drewN ?_ _) | (with_reducible refine Kd.C_drew ?_) | exact HR250_1.out)⟩, ⟨by repeat (first | (with_reducible exact HR250_2.out) | (with_reducible refine Kd.C_alloc ?_ _) | (with_reducible refine Kd.C_drewN ?_ _) | (with_reducible refine Kd.C_drew ?_) | exact HR250_2.out)⟩, ⟨by repeat (first | (with_reducible exact HR250_3.out) | (with_reducible refine Kd.C_alloc ?_ _) | (with_reducible refine Kd.C_drewN ?_ _) | (with_reducible refine Kd.C_drew ?_) | exact HR250_3.out)⟩, ⟨by repeat (first | (with_reducible first | exact HB.out | apply below_alloc | apply pw_below_drewN | apply below_drew1) | exact HB.out)⟩⟩
                    case rest =>
                      clear HC58
                      try clear c1
                      try clear c2
                      try clear p2
                      try clear q2
                      try clear hx2
                      try clear c3
                      try clear c4
                      try clear c5
                      try clear c6
                      try clear p6
                      try clear c9
                      try clear c10
                      try clear c12
                      try clear c14
                      try clear c15
                      try clear c25
                      try clear p25
                      try clear q25
                      try clear hx25
                      try clear c35
                      try clear c36
                      try clear c36b0
                      try clear c36b1
                      try clear c37
                      try clear c37b0
                      try clear c37b1
                      try clear c38
                      try clear c38b0
                      try clear c38b1
                      try clear c39
                      try clear c39b0
                      try clear c39b1
                      try clear c40
                      try clear c40b0
                      try clear c40b1
                      try clear c40b2
                      try clear c42
                      try clear c42b0
                      try clear c42b1
                      try clear c52
                      try clear c53
                      try clear c53b0
                      try clear c54
                      try clear c54b0
                      try clear c57
                      try clear c57b0
                      try clear c57b1
                      try clear c59
                      try clear hx250_0
                      try clear hx250_1
                      try clear hx250_2
                      try clear hx250_3
                      try clear p2
                      try clear p25
                      try clear p250
                      try clear q2
                      try clear q25
                      try clear q250
                      obtain ⟨kq, x21_57, rfl, HA, HJ57, HO_16, HO_18, HR250_1, HR250_2, HR250_3, HB⟩ := hcut
                      cases kq with
                      | zero => exact absurd HA.out (by simp [pollardlaw19_MergeTurned.j3])
                      | succ kj57 =>
                        have H := HA.out
                        clear HA
                        simp only [pollardlaw19_MergeTurned.j3] at H
                        by_cases c60 : 0 ≤ x20_2
                        · rw [if_pos c60] at H
                          have c60b0 : decide (0 ≤ x20_2) = true := decide_eq_true c60
                          clear c60
                          by_cases c61 : x20_2 < (t245.length : Int)
                          · rw [if_pos c61] at H
                            have c61b0 : decide (x20_2 < (t245.length : Int)) = true := decide_eq_true c61
                            clear c61
                            by_cases c62 : ((rd_T32 t245 x20_2).f0) = x21_57
                            · rw [if_pos c62] at H
                              have c62b0 : (((rd_T32 t245 x20_2).f0) == x21_57) = true := beq_iff_eq.mpr c62
                              have c62b1 : (((rd_T32 t245 x20_2).f0) != x21_57) = false := bne_eq_false_iff_eq.mpr c62
                              clear c62
                              by_cases c63 : x20_2 < (t232.length : Int)
                              · rw [if_pos c63] at H
                                have c63b0 : decide (x20_2 < (t232.length : Int)) = true := decide_eq_true c63
                                clear c63
                                replace H := Option.bind_eq_some_iff.mp H
                                obtain ⟨t254, A640, H⟩ := H
                                replace H : (if t254 = true then ((pollardref19_Same.f kj57 ((rd_T32 t232 x20_2).f3) ((rd_T32 t245 x20_2).f2)).bind fun t257 => (if t257 = true then (pollardlaw19_MergeTurned.l0 kj57 t232 t245 (wrap64 (x20_2 + 1))) else (none))) else (none)) = some r := H
                                have A64 := Aside0.mk A640
                                clear A640
                                by_cases c65 : t254 = true
                                · subst c65
                                  have H1 : ((pollardref19_Same.f kj57 ((rd_T32 t232 x20_2).f3) ((rd_T32 t245 x20_2).f2)).bind fun t257 => (if t257 = true then (pollardlaw19_MergeTurned.l0 kj57 t232 t245 (wrap64 (x20_2 + 1))) else (none))) = some r := by rw [if_pos rfl] at H; exact H
                                  clear H
                                  have H := H1
                                  clear H1
                                  replace H := Option.bind_eq_some_iff.mp H
                                  obtain ⟨t257, A660, H⟩ := H
                                  replace H : (if t257 = true then (pollardlaw19_MergeTurned.l0 kj57 t232 t245 (wrap64 (x20_2 + 1))) else (none)) = some r := H
                                  have A66 := Aside0.mk A660
                                  clear A660
                                  by_cases c67 : t257 = true
                                  · subst c67
                                    have H1 : (pollardlaw19_MergeTurned.l0 kj57 t232 t245 (wrap64 (x20_2 + 1))) = some r := by rw [if_pos rfl] at H; exact H
                                    clear H
                                    have H := H1
                                    clear H1
                                    have H' := Aside0.mk H
                                    clear H
                                    try go_wp2
                                    have n0_ := Aside0.mk (Kd.S_drew HO_16.out)
                                    have n1_ := Aside0.mk (Kd.S_drew HO_18.out)
                                    have n2_ := Aside0.mk (Kd.C_drew HR250_1.out)
                                    have n3_ := Aside0.mk (Kd.C_drew HR250_2.out)
                                    have n4_ := Aside0.mk (Kd.C_drew HR250_3.out)
                                    have n5_ := Aside0.mk (below_drew1 HB.out)
                                    clear HO_16
                                    clear HO_18
                                    clear HR250_1
                                    clear HR250_2
                                    clear HR250_3
                                    clear HB
                                    have HO_16 := n0_
                                    have HO_18 := n1_
                                    have HR250_1 := n2_
                                    have HR250_2 := n3_
                                    have HR250_3 := n4_
                                    have HB := n5_
                                    clear n0_ n1_ n2_ n3_ n4_ n5_
                                    obtain ⟨Ao69, co69, eo69⟩ := Kd.S_slice HO_18.out
                                    (first | subst eo69 | (injection eo69 with f1_ f2_ f3_; have f4_ := f1_.symm; have f5_ := f3_.symm; clear f1_ f2_ f3_; subst f4_; subst f5_))
                                    have p251 : 0 ≤ (x20_2 : Int) := of_decide_eq_true (by first | (with_reducible assumption) | assumption)
                                    have q251 : x20_2 < (t245.length : Int) := of_decide_eq_true (by first | (with_reducible assumption) | assumption)
                                    obtain ⟨ad251, A251_1, c251_1, A251_2, c251_2, A251_3, c251_3, e251, hx251_0, hx251_1, hx251_2, hx251_3, hl251_1, hi251_1, hl251_2, hi251_2, hl251_3, hi251_3⟩ := at_T32 (Kd.S_reads' HO_18.out).2.2 x20_2 p251 q251
                                    cases e251
                                    obtain ⟨ce251, hce251, hMe251, hcc251⟩ := Kd.S_get HO_18.out z32 x20_2 p251 (by first | exact q251 | exact of_decide_eq_true (by first | (with_reducible assumption) | assumption) | (have e_ := (Kd.S_reads' HO_18.out).1; omega))
                                    obtain ⟨ve251_1, ve251_2, ve251_3, rfl, ge251_1, ge251_2, ge251_3⟩ := k32_openM hMe251
                                    have hv251_1 := hcc251 1 _ rfl
                                    rw [add_field _ _ 1 (by omega)] at hv251_1
                                    replace hv251_1 := Option.some.inj (hv251_1.symm.trans hx251_1)
                                    rw [hv251_1] at ge251_1
                                    have HL251_1 := Aside0.mk (show Kd.R Kd.string 9 _ _ _ _ ((rd_T32 t245 x20_2).f1) from ge251_1)
                                    clear hv251_1 ge251_1
                                    have hv251_2 := hcc251 2 _ rfl
                                    rw [add_field _ _ 2 (by omega)] at hv251_2
                                    replace hv251_2 := Option.some.inj (hv251_2.symm.trans hx251_2)
                                    rw [hv251_2] at ge251_2
                                    have HL251_2 := Aside0.mk (show Kd.R Kd.string 9 _ _ _ _ ((rd_T32 t245 x20_2).f2) from ge251_2)
                                    clear hv251_2 ge251_2
                                    have hv251_3 := hcc251 3 _ rfl
                                    rw [add_field _ _ 3 (by omega)] at hv251_3
                                    replace hv251_3 := Option.some.inj (hv251_3.symm.trans hx251_3)
                                    rw [hv251_3] at ge251_3
                                    have HL251_3 := Aside0.mk (show Kd.R Kd.string 9 _ _ _ _ ((rd_T32 t245 x20_2).f3) from ge251_3)
                                    clear hv251_3 ge251_3
                                    clear hcc251 hce251
                                    have HR251_1 := Aside0.mk hi251_1
                                    have HC251_1 := Aside0.mk hl251_1
                                    clear hi251_1 hl251_1
                                    have HR251_2 := Aside0.mk hi251_2
                                    have HC251_2 := Aside0.mk hl251_2
                                    clear hi251_2 hl251_2
                                    have HR251_3 := Aside0.mk hi251_3
                                    have HC251_3 := Aside0.mk hl251_3
                                    clear hi251_3 hl251_3
                                    replace p251 := eq_true p251
                                    replace q251 := eq_true q251
                                    have p252 : 0 ≤ (x20_2 : Int) := of_decide_eq_true (by first | (with_reducible assumption) | assumption)
                                    have q252 : x20_2 < (t232.length : Int) := of_decide_eq_true (by first | (with_reducible assumption) | assumption)
                                    obtain ⟨ad252, A252_1, c252_1, A252_2, c252_2, A252_3, c252_3, e252, hx252_0, hx252_1, hx252_2, hx252_3, hl252_1, hi252_1, hl252_2, hi252_2, hl252_3, hi252_3⟩ := at_T32 (Kd.S_reads' HO_16.out).2.2 x20_2 p252 q252
                                    obtain rfl : ad250 = ad252 := (by injection e252)
                                    obtain ⟨ce252, hce252, hMe252, hcc252⟩ := Kd.S_get HO_16.out z32 x20_2 p252 (by first | exact q252 | exact of_decide_eq_true (by first | (with_reducible assumption) | assumption) | (have e_ := (Kd.S_reads' HO_16.out).1; omega))
                                    obtain ⟨ve252_1, ve252_2, ve252_3, rfl, ge252_1, ge252_2, ge252_3⟩ := k32_openM hMe252
                                    have hv252_1 := hcc252 1 _ rfl
                                    rw [add_field _ _ 1 (by omega)] at hv252_1
                                    replace hv252_1 := Option.some.inj (hv252_1.symm.trans hx252_1)
                                    rw [hv252_1] at ge252_1
                                    have HL252_1 := Aside0.mk (show Kd.R Kd.string 9 _ _ _ _ ((rd_T32 t232 x20_2).f1) from ge252_1)
                                    clear hv252_1 ge252_1
                                    have hv252_2 := hcc252 2 _ rfl
                                    rw [add_field _ _ 2 (by omega)] at hv252_2
                                    replace hv252_2 := Option.some.inj (hv252_2.symm.trans hx252_2)
                                    rw [hv252_2] at ge252_2
                                    have HL252_2 := Aside0.mk (show Kd.R Kd.string 9 _ _ _ _ ((rd_T32 t232 x20_2).f2) from ge252_2)
                                    clear hv252_2 ge252_2
                                    have hv252_3 := hcc252 3 _ rfl
                                    rw [add_field _ _ 3 (by omega)] at hv252_3
                                    replace hv252_3 := Option.some.inj (hv252_3.symm.trans hx252_3)
                                    rw [hv252_3] at ge252_3
                                    have HL252_3 := Aside0.mk (show Kd.R Kd.string 9 _ _ _ _ ((rd_T32 t232 x20_2).f3) from ge252_3)
                                    clear hv252_3 ge252_3
                                    clear hcc252 hce252
                                    have HR252_1 := Aside0.mk hi252_1
                                    have HC252_1 := Aside0.mk hl252_1
                                    clear hi252_1 hl252_1
                                    have HR252_2 := Aside0.mk hi252_2
                                    have HC252_2 := Aside0.mk hl252_2
                                    clear hi252_2 hl252_2
                                    have HR252_3 := Aside0.mk hi252_3
                                    have HC252_3 := Aside0.mk hl252_3
                                    clear hi252_3 hl252_3
                                    replace p252 := eq_true p252
                                    replace q252 := eq_true q252
                                    have p253 : 0 ≤ (x20_2 : Int) := of_decide_eq_true (by first | (with_reducible assumption) | assumption)
                                    have q253 : x20_2 < (t245.length : Int) := of_decide_eq_true (by first | (with_reducible assumption) | assumption)
                                    obtain ⟨ad253, A253_1, c253_1, A253_2, c253_2, A253_3, c253_3, e253, hx253_0, hx253_1, hx253_2, hx253_3, hl253_1, hi253_1, hl253_2, hi253_2, hl253_3, hi253_3⟩ := at_T32 (Kd.S_reads' HO_18.out).2.2 x20_2 p253 q253
                                    obtain rfl : ad251 = ad253 := (by injection e253)
                                    obtain ⟨ce253, hce253, hMe253, hcc253⟩ := Kd.S_get HO_18.out z32 x20_2 p253 (by first | exact q253 | exact of_decide_eq_true (by first | (with_reducible assumption) | assumption) | (have e_ := (Kd.S_reads' HO_18.out).1; omega))
                                    obtain ⟨ve253_1, ve253_2, ve253_3, rfl, ge253_1, ge253_2, ge253_3⟩ := k32_openM hMe253
                                    have hv253_1 := hcc253 1 _ rfl
                                    rw [add_field _ _ 1 (by omega)] at hv253_1
                                    replace hv253_1 := Option.some.inj (hv253_1.symm.trans hx253_1)
                                    rw [hv253_1] at ge253_1
                                    have HL253_1 := Aside0.mk (show Kd.R Kd.string 9 _ _ _ _ ((rd_T32 t245 x20_2).f1) from ge253_1)
                                    clear hv253_1 ge253_1
                                    have hv253_2 := hcc253 2 _ rfl
                                    rw [add_field _ _ 2 (by omega)] at hv253_2
                                    replace hv253_2 := Option.some.inj (hv253_2.symm.trans hx253_2)
                                    rw [hv253_2] at ge253_2
                                    have HL253_2 := Aside0.mk (show Kd.R Kd.string 9 _ _ _ _ ((rd_T32 t245 x20_2).f2) from ge253_2)
                                    clear hv253_2 ge253_2
                                    have hv253_3 := hcc253 3 _ rfl
                                    rw [add_field _ _ 3 (by omega)] at hv253_3
                                    replace hv253_3 := Option.some.inj (hv253_3.symm.trans hx253_3)
                                    rw [hv253_3] at ge253_3
                                    have HL253_3 := Aside0.mk (show Kd.R Kd.string 9 _ _ _ _ ((rd_T32 t245 x20_2).f3) from ge253_3)
                                    clear hv253_3 ge253_3
                                    clear hcc253 hce253
                                    have HR253_1 := Aside0.mk hi253_1
                                    have HC253_1 := Aside0.mk hl253_1
                                    clear hi253_1 hl253_1
                                    have HR253_2 := Aside0.mk hi253_2
                                    have HC253_2 := Aside0.mk hl253_2
                                    clear hi253_2 hl253_2
                                    have HR253_3 := Aside0.mk hi253_3
                                    have HC253_3 := Aside0.mk hl253_3
                                    clear hi253_3 hl253_3
                                    replace p253 := eq_true p253
                                    replace q253 := eq_true q253
                                    have ea_ := Option.some.inj (hx251_1.symm.trans hx253_1)
                                    injection ea_ with ea_ en_ ec_
                                    subst ea_
                                    subst ec_
                                    clear en_
                                    have ea_ := Option.some.inj (hx251_2.symm.trans hx253_2)
                                    injection ea_ with ea_ en_ ec_
                                    subst ea_
                                    subst ec_
                                    clear en_
                                    have ea_ := Option.some.inj (hx251_3.symm.trans hx253_3)
                                    injection ea_ with ea_ en_ ec_
                                    subst ea_
                                    subst ec_
                                    clear en_
                                    have p255 : 0 ≤ (x20_2 : Int) := of_decide_eq_true (by first | (with_reducible assumption) | assumption)
                                    have q255 : x20_2 < (t232.length : Int) := of_decide_eq_true (by first | (with_reducible assumption) | assumption)
                                    obtain ⟨ad255, A255_1, c255_1, A255_2, c255_2, A255_3, c255_3, e255, hx255_0, hx255_1, hx255_2, hx255_3, hl255_1, hi255_1, hl255_2, hi255_2, hl255_3, hi255_3⟩ := at_T32 (Kd.S_reads' HO_16.out).2.2 x20_2 p255 q255
                                    obtain rfl : ad250 = ad255 := (by injection e255)
                                    obtain ⟨ce255, hce255, hMe255, hcc255⟩ := Kd.S_get HO_16.out z32 x20_2 p255 (by first | exact q255 | exact of_decide_eq_true (by first | (with_reducible assumption) | assumption) | (have e_ := (Kd.S_reads' HO_16.out).1; omega))
                                    obtain ⟨ve255_1, ve255_2, ve255_3, rfl, ge255_1, ge255_2, ge255_3⟩ := k32_openM hMe255
                                    have hv255_1 := hcc255 1 _ rfl
                                    rw [add_field _ _ 1 (by omega)] at hv255_1
                                    replace hv255_1 := Option.some.inj (hv255_1.symm.trans hx255_1)
                                    rw [hv255_1] at ge255_1
                                    have HL255_1 := Aside0.mk (show Kd.R Kd.string 9 _ _ _ _ ((rd_T32 t232 x20_2).f1) from ge255_1)
                                    clear hv255_1 ge255_1
                                    have hv255_2 := hcc255 2 _ rfl
                                    rw [add_field _ _ 2 (by omega)] at hv255_2
                                    replace hv255_2 := Option.some.inj (hv255_2.symm.trans hx255_2)
                                    rw [hv255_2] at ge255_2
                                    have HL255_2 := Aside0.mk (show Kd.R Kd.string 9 _ _ _ _ ((rd_T32 t232 x20_2).f2) from ge255_2)
                                    clear hv255_2 ge255_2
                                    have hv255_3 := hcc255 3 _ rfl
                                    rw [add_field _ _ 3 (by omega)] at hv255_3
                                    replace hv255_3 := Option.some.inj (hv255_3.symm.trans hx255_3)
                                    rw [hv255_3] at ge255_3
                                    have HL255_3 := Aside0.mk (show Kd.R Kd.string 9 _ _ _ _ ((rd_T32 t232 x20_2).f3) from ge255_3)
                                    clear hv255_3 ge255_3
                                    clear hcc255 hce255
                                    have HR255_1 := Aside0.mk hi255_1
                                    have HC255_1 := Aside0.mk hl255_1
                                    clear hi255_1 hl255_1
                                    have HR255_2 := Aside0.mk hi255_2
                                    have HC255_2 := Aside0.mk hl255_2
                                    clear hi255_2 hl255_2
                                    have HR255_3 := Aside0.mk hi255_3
                                    have HC255_3 := Aside0.mk hl255_3
                                    clear hi255_3 hl255_3
                                    replace p255 := eq_true p255
                                    replace q255 := eq_true q255
                                    have ea_ := Option.some.inj (hx252_1.symm.trans hx255_1)
                                    injection ea_ with ea_ en_ ec_
                                    subst ea_
                                    subst ec_
                                    clear en_
                                    have ea_ := Option.some.inj (hx252_2.symm.trans hx255_2)
                                    injection ea_ with ea_ en_ ec_
                                    subst ea_
                                    subst ec_
                                    clear en_
                                    have ea_ := Option.some.inj (hx252_3.symm.trans hx255_3)
                                    injection ea_ with ea_ en_ ec_
                                    subst ea_
                                    subst ec_
                                    clear en_
                                    have p256 : 0 ≤ (x20_2 : Int) := of_decide_eq_true (by first | (with_reducible assumption) | assumption)
                                    have q256 : x20_2 < (t245.length : Int) := of_decide_eq_true (by first | (with_reducible assumption) | assumption)
                                    obtain ⟨ad256, A256_1, c256_1, A256_2, c256_2, A256_3, c256_3, e256, hx256_0, hx256_1, hx256_2, hx256_3, hl256_1, hi256_1, hl256_2, hi256_2, hl256_3, hi256_3⟩ := at_T32 (Kd.S_reads' HO_18.out).2.2 x20_2 p256 q256
                                    obtain rfl : ad251 = ad256 := (by injection e256)
                                    obtain ⟨ce256, hce256, hMe256, hcc256⟩ := Kd.S_get HO_18.out z32 x20_2 p256 (by first | exact q256 | exact of_decide_eq_true (by first | (with_reducible assumption) | assumption) | (have e_ := (Kd.S_reads' HO_18.out).1; omega))
                                    obtain ⟨ve256_1, ve256_2, ve256_3, rfl, ge256_1, ge256_2, ge256_3⟩ := k32_openM hMe256
                                    have hv256_1 := hcc256 1 _ rfl
                                    rw [add_field _ _ 1 (by omega)] at hv256_1
                                    replace hv256_1 := Option.some.inj (hv256_1.symm.trans hx256_1)
                                    rw [hv256_1] at ge256_1
                                    have HL256_1 := Aside0.mk (show Kd.R Kd.string 9 _ _ _ _ ((rd_T32 t245 x20_2).f1) from ge256_1)
                                    clear hv256_1 ge256_1
                                    have hv256_2 := hcc256 2 _ rfl
                                    rw [add_field _ _ 2 (by omega)] at hv256_2
                                    replace hv256_2 := Option.some.inj (hv256_2.symm.trans hx256_2)
                                    rw [hv256_2] at ge256_2
                                    have HL256_2 := Aside0.mk (show Kd.R Kd.string 9 _ _ _ _ ((rd_T32 t245 x20_2).f2) from ge256_2)
                                    clear hv256_2 ge256_2
                                    have hv256_3 := hcc256 3 _ rfl
                                    rw [add_field _ _ 3 (by omega)] at hv256_3
                                    replace hv256_3 := Option.some.inj (hv256_3.symm.trans hx256_3)
                                    rw [hv256_3] at ge256_3
                                    have HL256_3 := Aside0.mk (show Kd.R Kd.string 9 _ _ _ _ ((rd_T32 t245 x20_2).f3) from ge256_3)
                                    clear hv256_3 ge256_3
                                    clear hcc256 hce256
                                    have HR256_1 := Aside0.mk hi256_1
                                    have HC256_1 := Aside0.mk hl256_1
                                    clear hi256_1 hl256_1
                                    have HR256_2 := Aside0.mk hi256_2
                                    have HC256_2 := Aside0.mk hl256_2
                                    clear hi256_2 hl256_2
                                    have HR256_3 := Aside0.mk hi256_3
                                    have HC256_3 := Aside0.mk hl256_3
                                    clear hi256_3 hl256_3
                                    replace p256 := eq_true p256
                                    replace q256 := eq_true q256
                                    have ea_ := Option.some.inj (hx251_1.symm.trans hx256_1)
                                    injection ea_ with ea_ en_ ec_
                                    subst ea_
                                    subst ec_
                                    clear en_
                                    have ea_ := Option.some.inj (hx251_2.symm.trans hx256_2)
                                    injection ea_ with ea_ en_ ec_
                                    subst ea_
                                    subst ec_
                                    clear en_
                                    have ea_ := Option.some.inj (hx251_3.symm.trans hx256_3)
                                    injection ea_ with ea_ en_ ec_
                                    subst ea_
                                    subst ec_
                                    clear en_
                                    refine start_ (n := 35) (S := fun w' => w'.cell? (ad251.add ((x20_2).toNat * 4)) = some (.int .i64 ((rd_T32 t245 x20_2).f0)) ∧ w'.cell? ⟨(ad251.add ((x20_2).toNat * 4)).block, (ad251.add ((x20_2).toNat * 4)).off + 1, none⟩ = some (.slice A251_1 ((rd_T32 t245 x20_2).f1).length c251_1) ∧ w'.cell? ⟨(ad251.add ((x20_2).toNat * 4)).block, (ad251.add ((x20_2).toNat * 4)).off + 2, none⟩ = some (.slice A251_2 ((rd_T32 t245 x20_2).f2).length c251_2) ∧ w'.cell? ⟨(ad251.add ((x20_2).toNat * 4)).block, (ad251.add ((x20_2).toNat * 4)).off + 3, none⟩ = some (.slice A251_3 ((rd_T32 t245 x20_2).f3).length c251_3) ∧ w'.cell? (ad250.add ((x20_2).toNat * 4)) = some (.int .i64 ((rd_T32 t232 x20_2).f0)) ∧ w'.cell? ⟨(ad250.add ((x20_2).toNat * 4)).block, (ad250.add ((x20_2).toNat * 4)).off + 1, none⟩ = some (.slice A252_1 ((rd_T32 t232 x20_2).f1).length c252_1) ∧ w'.cell? ⟨(ad250.add ((x20_2).toNat * 4)).block, (ad250.add ((x20_2).toNat * 4)).off + 2, none⟩ = some (.slice A252_2 ((rd_T32 t232 x20_2).f2).length c252_2) ∧ w'.cell? ⟨(ad250.add ((x20_2).toNat * 4)).block, (ad250.add ((x20_2).toNat * 4)).off + 3, none⟩ = some (.slice A252_3 ((rd_T32 t232 x20_2).f3).length c252_3) ∧ w'.cell? (ad251.add ((x20_2).toNat * 4)) = some (.int .i64 ((rd_T32 t245 x20_2).f0)) ∧ w'.cell? ⟨(ad251.add ((x20_2).toNat * 4)).block, (ad251.add ((x20_2).toNat * 4)).off + 1, none⟩ = some (.slice A251_1 ((rd_T32 t245 x20_2).f1).length c251_1) ∧ w'.cell? ⟨(ad251.add ((x20_2).toNat * 4)).block, (ad251.add ((x20_2).toNat * 4)).off + 2, none⟩ = some (.slice A251_2 ((rd_T32 t245 x20_2).f2).length c251_2) ∧ w'.cell? ⟨(ad251.add ((x20_2).toNat * 4)).block, (ad251.add ((x20_2).toNat * 4)).off + 3, none⟩ = some (.slice A251_3 ((rd_T32 t245 x20_2).f3).length c251_3) ∧ w'.cell? (ad250.add ((x20_2).toNat * 4)) = some (.int .i64 ((rd_T32 t232 x20_2).f0)) ∧ w'.cell? ⟨(ad250.add ((x20_2).toNat * 4)).block, (ad250.add ((x20_2).toNat * 4)).off + 1, none⟩ = some (.slice A252_1 ((rd_T32 t232 x20_2).f1).length c252_1) ∧ w'.cell? ⟨(ad250.add ((x20_2).toNat * 4)).block, (ad250.add ((x20_2).toNat * 4)).off + 2, none⟩ = some (.slice A252_2 ((rd_T32 t232 x20_2).f2).length c252_2) ∧ w'.cell? ⟨(ad250.add ((x20_2).toNat * 4)).block, (ad250.add ((x20_2).toNat * 4)).off + 3, none⟩ = some (.slice A252_3 ((rd_T32 t232 x20_2).f3).length c252_3) ∧ w'.cell? (ad251.add ((x20_2).toNat * 4)) = some (.int .i64 ((rd_T32 t245 x20_2).f0)) ∧ w'.cell? ⟨(ad251.add ((x20_2).toNat * 4)).block, (ad251.add ((x20_2).toNat * 4)).off + 1, none⟩ = some (.slice A251_1 ((rd_T32 t245 x20_2).f1).length c251_1) ∧ w'.cell? ⟨(ad251.add ((x20_2).toNat * 4)).block, (ad251.add ((x20_2).toNat * 4)).off + 2, none⟩ = some (.slice A251_2 ((rd_T32 t245 x20_2).f2).length c251_2) ∧ w'.cell? ⟨(ad251.add ((x20_2).toNat * 4)).block, (ad251.add ((x20_2).toNat * 4)).off + 3, none⟩ = some (.slice A251_3 ((rd_T32 t245 x20_2).f3).length c251_3)) (ds := []) #[false, false, false, false, false, false, false, false, false, false, false, false, false, false, false, false, false, false, false, false, false, false, false, false, false, false, false, false, false, false, false, false, false, false, false] (by kernel_rfl) rfl rfl ⟨hx251_0, hx251_1, hx251_2, hx251_3, hx252_0, hx252_1, hx252_2, hx252_3, hx253_0, hx253_1, hx253_2, hx253_3, hx255_0, hx255_1, hx255_2, hx255_3, hx256_0, hx256_1, hx256_2, hx256_3⟩ (fun hHeld => ?_); refine with_tabW pollardlaw19_MergeTurned.tab14 pollardlaw19_MergeTurned.bits14 (fun HT_ HW_ => ?_)
                                    generalize wc.drew = w68 at HO_16 HO_18 HR250_1 HR250_2 HR250_3 HB HL251_1 HL251_2 HL251_3 HL252_1 HL252_2 HL252_3 HL253_1 HL253_2 HL253_3 HL255_1 HL255_2 HL255_3 HL256_1 HL256_2 HL256_3 HR251_1 HR251_2 HR251_3 HR252_1 HR252_2 HR252_3 HR253_1 HR253_2 HR253_3 HR255_1 HR255_2 HR255_3 HR256_1 HR256_2 HR256_3 hx251_0 hx251_1 hx251_2 hx251_3 hx252_0 hx252_1 hx252_2 hx252_3 hx253_0 hx253_1 hx253_2 hx253_3 hx255_0 hx255_1 hx255_2 hx255_3 hx256_0 hx256_1 hx256_2 hx256_3 hHeld ⊢
                                    refine pure_ (i := 0) (N := some 118) (v := ?_) (a' := ?_) #[true, false, false, false, false, false, false, false, false, false, false, false, false, false, false, false, false, false, false, false, false, false, false, false, false, false, false, false, false, false, false, false, false, false, false] rfl rfl (any_of HT_.out (by kernel_rfl)) (fun _ _ _ h => h) (Or.inl ⟨by rfl, ?_⟩) ?_ ?_
                                    rotate_left
                                    · intro w'
                                      go_simp
                                      with_reducible rfl
                                    rotate_left
                                    · simp only [Act.put, List.setIfInBounds_toArray, List.set_cons_zero, List.set_cons_succ, i64_w, i32_w]
                                      rfl
                                    refine pure_ (i := 1) (N := some 119) (v := ?_) (a' := ?_) #[true, true, false, false, false, false, false, false, false, false, false, false, false, false, false, false, false, false, false, false, false, false, false, false, false, false, false, false, false, false, false, false, false, false, false] rfl rfl (any_of HT_.out (by kernel_rfl)) (fun _ _ _ h => h) (Or.inl ⟨by rfl, ?_⟩) ?_ ?_
                                    rotate_left
                                    · intro w'
                                      go_simp
                                      with_reducible rfl
                                    rotate_left
                                    · simp only [Act.put, List.setIfInBounds_toArray, List.set_cons_zero, List.set_cons_succ, i64_w, i32_w]
                                      rfl
                                    refine pure_ (i := 2) (N := some 120) (v := ?_) (a' := ?_) #[true, true, true, false, false, false, false, false, false, false, false, false, false, false, false, false, false, false, false, false, false, false, false, false, false, false, false, false, false, false, false, false, false, false, false] rfl rfl (any_of HT_.out (by kernel_rfl)) (fun _ _ _ h => h) (Or.inl ⟨by rfl, ?_⟩) ?_ ?_
                                    rotate_left
                                    · intro w'
                                      go_simp
                                      with_reducible rfl
                                    rotate_left
                                    · simp only [Act.put, List.setIfInBounds_toArray, List.set_cons_zero, List.set_cons_succ, i64_w, i32_w]
                                      rfl
                                    refine pure_ (i := 3) (N := some 121) (v := ?_) (a' := ?_) #[true, true, true, true, false, false, false, false, false, false, false, false, false, false, false, false, false, false, false, false, false, false, false, false, false, false, false, false, false, false, false, false, false, false, false] rfl rfl (any_of HT_.out (by kernel_rfl)) (fun _ _ _ h => h) (Or.inl ⟨by rfl, ?_⟩) ?_ ?_
                                    rotate_left
                                    · intro w'
                                      go_simp
                                      with_reducible rfl
                                    rotate_left
                                    · simp only [Act.put, List.setIfInBounds_toArray, List.set_cons_zero, List.set_cons_succ, i64_w, i32_w]
                                      rfl
                                    refine pure_ (i := 5) (N := some 123) (v := ?_) (a' := ?_) #[true, true, true, true, false, true, false, false, false, false, false, false, false, false, false, false, false, false, false, false, false, false, false, false, false, false, false, false, false, false, false, false, false, false, false] rfl rfl (any_of HT_.out (by kernel_rfl)) (fun _ _ _ h => h) (Or.inl ⟨by rfl, ?_⟩) ?_ ?_
                                    rotate_left
                                    · intro w'
                                      go_simp
                                      with_reducible rfl
                                    rotate_left
                                    · simp only [Act.put, List.setIfInBounds_toArray, List.set_cons_zero, List.set_cons_succ, i64_w, i32_w]
                                      rfl
                                    refine take_ (i := 4) (N := some 122) (v := ?_) (a' := ?_) #[true, true, true, true, true, true, false, false, false, false, false, false, false, false, false, false, false, false, false, false, false, false, false, false, false, false, false, false, false, false, false, false, false, false, false] rfl rfl (take_ofW HT_.out HW_.out (by kernel_rfl)) (fun _ _ _ h => h) (Or.inl ⟨by rfl, ?_⟩) hHeld ?_ ?_
                                    rotate_left
                                    · rintro w' ⟨s0, s1, s2, s3, s4, s5, s6, s7, s8, s9, s10, s11, s12, s13, s14, s15, s16, s17, s18, s19⟩
                                      go_simp
                                      with_reducible rfl
                                    rotate_left
                                    · simp only [Act.put, List.setIfInBounds_toArray, List.set_cons_zero, List.set_cons_succ, i64_w, i32_w]
                                      rfl
                                    refine pure_ (i := 6) (N := some 124) (v := ?_) (a' := ?_) #[true, true, true, true, true, true, true, false, false, false, false, false, false, false, false, false, false, false, false, false, false, false, false, false, false, false, false, false, false, false, false, false, false, false, false] rfl rfl (any_of HT_.out (by kernel_rfl)) (fun _ _ _ h => h) (Or.inl ⟨by rfl, ?_⟩) ?_ ?_
                                    rotate_left
                                    · intro w'
                                      go_simp
                                      with_reducible rfl
                                    rotate_left
                                    · simp only [Act.put, List.setIfInBounds_toArray, List.set_cons_zero, List.set_cons_succ, i64_w, i32_w]
                                      rfl
                                    refine pure_ (i := 7) (N := some 125) (v := ?_) (a' := ?_) #[true, true, true, true, true, true, true, true, false, false, false, false, false, false, false, false, false, false, false, false, false, false, false, false, false, false, false, false, false, false, false, false, false, false, false] rfl rfl (any_of HT_.out (by kernel_rfl)) (fun _ _ _ h => h) (Or.inl ⟨by rfl, ?_⟩) ?_ ?_
                                    rotate_left
                                    · intro w'
                                      go_simp
                                      with_reducible rfl
                                    rotate_left
                                    · simp only [Act.put, List.setIfInBounds_toArray, List.set_cons_zero, List.set_cons_succ, i64_w, i32_w]
                                      rfl
                                    refine pure_ (i := 8) (N := some 126) (v := ?_) (a' := ?_) #[true, true, true, true, true, true, true, true, true, false, false, false, false, false, false, false, false, false, false, false, false, false, false, false, false, false, false, false, false, false, false, false, false, false, false] rfl rfl (any_of HT_.out (by kernel_rfl)) (fun _ _ _ h => h) (Or.inl ⟨by rfl, ?_⟩) ?_ ?_
                                    rotate_left
                                    · intro w'
                                      go_simp
                                      with_reducible rfl
                                    rotate_left
                                    · simp only [Act.put, List.setIfInBounds_toArray, List.set_cons_zero, List.set_cons_succ, i64_w, i32_w]
                                      rfl
                                    refine pure_ (i := 9) (N := some 127) (v := ?_) (a' := ?_) #[true, true, true, true, true, true, true, true, true, true, false, false, false, false, false, false, false, false, false, false, false, false, false, false, false, false, false, false, false, false, false, false, false, false, false] rfl rfl (any_of HT_.out (by kernel_rfl)) (fun _ _ _ h => h) (Or.inl ⟨by rfl, ?_⟩) ?_ ?_
                                    rotate_left
                                    · intro w'
                                      go_simp
                                      with_reducible rfl
                                    rotate_left
                                    · simp only [Act.put, List.setIfInBounds_toArray, List.set_cons_zero, List.set_cons_succ, i64_w, i32_w]
                                      rfl
                                    refine pure_ (i := 10) (N := some 128) (v := ?_) (a' := ?_) #[true, true, true, true, true, true, true, true, true, true, true, false, false, false, false, false, false, false, false, false, false, false, false, false, false, false, false, false, false, false, false, false, false, false, false] rfl rfl (any_of HT_.out (by kernel_rfl)) (fun _ _ _ h => h) (Or.inl ⟨by rfl, ?_⟩) ?_ ?_
                                    rotate_left
                                    · intro w'
                                      go_simp
                                      with_reducible rfl
                                    rotate_left
                                    · simp only [Act.put, List.setIfInBounds_toArray, List.set_cons_zero, List.set_cons_succ, i64_w, i32_w]
                                      rfl
                                    refine pure_ (i := 11) (N := some 129) (v := ?_) (a' := ?_) #[true, true, true, true, true, true, true, true, true, true, true, true, false, false, false, false, false, false, false, false, false, false, false, false, false, false, false, false, false, false, false, false, false, false, false] rfl rfl (any_of HT_.out (by kernel_rfl)) (fun _ _ _ h => h) (Or.inl ⟨by rfl, ?_⟩) ?_ ?_
                                    rotate_left
                                    · intro w'
                                      go_simp
                                      with_reducible rfl
                                    rotate_left
                                    · simp only [Act.put, List.setIfInBounds_toArray, List.set_cons_zero, List.set_cons_succ, i64_w, i32_w]
                                      rfl
                                    refine pure_ (i := 13) (N := some 131) (v := ?_) (a' := ?_) #[true, true, true, true, true, true, true, true, true, true, true, true, false, true, false, false, false, false, false, false, false, false, false, false, false, false, false, false, false, false, false, false, false, false, false] rfl rfl (any_of HT_.out (by kernel_rfl)) (fun _ _ _ h => h) (Or.inl ⟨by rfl, ?_⟩) ?_ ?_
                                    rotate_left
                                    · intro w'
                                      go_simp
                                      with_reducible rfl
                                    rotate_left
                                    · simp only [Act.put, List.setIfInBounds_toArray, List.set_cons_zero, List.set_cons_succ, i64_w, i32_w]
                                      rfl
                                    refine pure_ (i := 14) (N := some 132) (v := ?_) (a' := ?_) #[true, true, true, true, true, true, true, true, true, true, true, true, false, true, true, false, false, false, false, false, false, false, false, false, false, false, false, false, false, false, false, false, false, false, false] rfl rfl (any_of HT_.out (by kernel_rfl)) (fun _ _ _ h => h) (Or.inl ⟨by rfl, ?_⟩) ?_ ?_
                                    rotate_left
                                    · intro w'
                                      go_simp
                                      with_reducible rfl
                                    rotate_left
                                    · simp only [Act.put, List.setIfInBounds_toArray, List.set_cons_zero, List.set_cons_succ, i64_w, i32_w]
                                      rfl
                                    refine pure_ (i := 15) (N := some 133) (v := ?_) (a' := ?_) #[true, true, true, true, true, true, true, true, true, true, true, true, false, true, true, true, false, false, false, false, false, false, false, false, false, false, false, false, false, false, false, false, false, false, false] rfl rfl (any_of HT_.out (by kernel_rfl)) (fun _ _ _ h => h) (Or.inl ⟨by rfl, ?_⟩) ?_ ?_
                                    rotate_left
                                    · intro w'
                                      go_simp
                                      with_reducible rfl
                                    rotate_left
                                    · simp only [Act.put, List.setIfInBounds_toArray, List.set_cons_zero, List.set_cons_succ, i64_w, i32_w]
                                      rfl
                                    refine pure_ (i := 16) (N := some 134) (v := ?_) (a' := ?_) #[true, true, true, true, true, true, true, true, true, true, true, true, false, true, true, true, true, false, false, false, false, false, false, false, false, false, false, false, false, false, false, false, false, false, false] rfl rfl (any_of HT_.out (by kernel_rfl)) (fun _ _ _ h => h) (Or.inl ⟨by rfl, ?_⟩) ?_ ?_
                                    rotate_left
                                    · intro w'
                                      go_simp
                                      with_reducible rfl
                                    rotate_left
                                    · simp only [Act.put, List.setIfInBounds_toArray, List.set_cons_zero, List.set_cons_succ, i64_w, i32_w]
                                      rfl
                                    refine take_ (i := 12) (N := some 130) (v := ?_) (a' := ?_) #[true, true, true, true, true, true, true, true, true, true, true, true, true, true, true, true, true, false, false, false, false, false, false, false, false, false, false, false, false, false, false, false, false, false, false] rfl rfl (take_ofW HT_.out HW_.out (by kernel_rfl)) (fun _ _ _ h => h) (Or.inl ⟨by rfl, ?_⟩) hHeld ?_ ?_
                                    rotate_left
                                    · rintro w' ⟨s0, s1, s2, s3, s4, s5, s6, s7, s8, s9, s10, s11, s12, s13, s14, s15, s16, s17, s18, s19⟩
                                      go_simp
                                      with_reducible rfl
                                    rotate_left
                                    · simp only [Act.put, List.setIfInBounds_toArray, List.set_cons_zero, List.set_cons_succ, i64_w, i32_w]
                                      rfl
                                    refine take_ (i := 17) (N := some 135) (v := ?_) (a' := ?_) #[true, true, true, true, true, true, true, true, true, true, true, true, true, true, true, true, true, true, false, false, false, false, false, false, false, false, false, false, false, false, false, false, false, false, false] rfl rfl (take_ofW HT_.out HW_.out (by kernel_rfl)) (fun _ _ _ h => h) (Or.inl ⟨by rfl, ?_⟩) hHeld ?_ ?_
                                    rotate_left
                                    · rintro w' ⟨s0, s1, s2, s3, s4, s5, s6, s7, s8, s9, s10, s11, s12, s13, s14, s15, s16, s17, s18, s19⟩
                                      go_simp
                                      with_reducible rfl
                                    rotate_left
                                    · simp only [Act.put, List.setIfInBounds_toArray, List.set_cons_zero, List.set_cons_succ, i64_w, i32_w]
                                      rfl
                                    refine one_ (i := 18) (N := some 136) #[true, true, true, true, true, true, true, true, true, true, true, true, true, true, true, true, true, true, true, false, false, false, false, false, false, false, false, false, false, false, false, false, false, false, false] rfl rfl (one_of HT_.out (by kernel_rfl)) (by decide) (fun K hK => ?_)
                                    refine goes_ Tryd.func13 (by kernel_rfl) rfl #[.slice A252_2 ((rd_T32 t232 x20_2).f2).length c252_2, .slice A251_3 ((rd_T32 t245 x20_2).f3).length c251_3] (by rfl) rfl rfl (by (try simp only [List.map_toArray, List.map_cons, List.map_nil]); first | done | rfl | (simp only [List.length_drop, List.length_take]; rfl)) ?_
                                    with_reducible refine (pollardref19_Same.calls kj57 _ _ ((rd_T32 t232 x20_2).f2) _ _ ((rd_T32 t245 x20_2).f3) true _ ?side1 ?side2 ?side3 ?side4 A64.out).mono ?_
                                    (case side1 => repeat (first | exact (by repeat (first | (with_reducible exact HR252_2.out) | (with_reducible refine Kd.C_alloc ?_ _) | (with_reducible refine Kd.C_drewN ?_ _) | (with_reducible refine Kd.C_drew ?_) | exact HR252_2.out)) | (with_reducible refine Kd.C_alloc ?_ _) | (with_reducible refine Kd.C_drewN ?_ _) | (with_reducible refine Kd.C_drew ?_)))
                                    (case side2 => exact HC252_2.out)
                                    (case side3 => repeat (first | exact (by repeat (first | (with_reducible exact HR253_3.out) | (with_reducible refine Kd.C_alloc ?_ _) | (with_reducible refine Kd.C_drewN ?_ _) | (with_reducible refine Kd.C_drew ?_) | exact HR253_3.out)) | (with_reducible refine Kd.C_alloc ?_ _) | (with_reducible refine Kd.C_drewN ?_ _) | (with_reducible refine Kd.C_drew ?_)))
                                    (case side4 => exact HC253_3.out)
                                    rintro e w' ⟨rfl, ⟨nd, rfl⟩⟩
                                    refine ⟨_, rfl, ?_⟩
                                    refine hK.out _ _ ⟨hHeld.1, hHeld.2.1, hHeld.2.2.1, hHeld.2.2.2.1, hHeld.2.2.2.2.1, hHeld.2.2.2.2.2.1, hHeld.2.2.2.2.2.2.1, hHeld.2.2.2.2.2.2.2.1, hHeld.2.2.2.2.2.2.2.2.1, hHeld.2.2.2.2.2.2.2.2.2.1, hHeld.2.2.2.2.2.2.2.2.2.2.1, hHeld.2.2.2.2.2.2.2.2.2.2.2.1, hHeld.2.2.2.2.2.2.2.2.2.2.2.2.1, hHeld.2.2.2.2.2.2.2.2.2.2.2.2.2.1, hHeld.2.2.2.2.2.2.2.2.2.2.2.2.2.2.1, hHeld.2.2.2.2.2.2.2.2.2.2.2.2.2.2.2.1, hHeld.2.2.2.2.2.2.2.2.2.2.2.2.2.2.2.2.1, hHeld.2.2.2.2.2.2.2.2.2.2.2.2.2.2.2.2.2.1, hHeld.2.2.2.2.2.2.2.2.2.2.2.2.2.2.2.2.2.2.1, hHeld.2.2.2.2.2.2.2.2.2.2.2.2.2.2.2.2.2.2.2⟩ (fun hHeld => ?_)
                                    clear hK K
                                    refine norm_ (a' := ?_) ?_ ?_
                                    rotate_left
                                    · show Act.put _ (some 136) _ = _
                                      simp only [Act.put, List.setIfInBounds_toArray, List.set_cons_zero, List.set_cons_succ, i64_w, i32_w]
                                      rfl
                                    refine pure_ (i := 19) (N := some 137) (v := ?_) (a' := ?_) #[true, true, true, true, true, true, true, true, true, true, true, true, true, true, true, true, true, true, true, true, false, false, false, false, false, false, false, false, false, false, false, false, false, false, false] rfl rfl (any_of HT_.out (by kernel_rfl)) (fun _ _ _ h => h) (Or.inl ⟨by rfl, ?_⟩) ?_ ?_
                                    rotate_left
                                    · intro w'
                                      go_simp
                                      with_reducible rfl
                                    rotate_left
                                    · simp only [Act.put, List.setIfInBounds_toArray, List.set_cons_zero, List.set_cons_succ, i64_w, i32_w]
                                      rfl
                                    refine pure_ (i := 20) (N := some 138) (v := ?_) (a' := ?_) #[true, true, true, true, true, true, true, true, true, true, true, true, true, true, true, true, true, true, true, true, true, false, false, false, false, false, false, false, false, false, false, false, false, false, false] rfl rfl (any_of HT_.out (by kernel_rfl)) (fun _ _ _ h => h) (Or.inl ⟨by rfl, ?_⟩) ?_ ?_
                                    rotate_left
                                    · intro w'
                                      go_simp
                                      with_reducible rfl
                                    rotate_left
                                    · simp only [Act.put, List.setIfInBounds_toArray, List.set_cons_zero, List.set_cons_succ, i64_w, i32_w]
                                      rfl
                                    refine pure_ (i := 21) (N := some 139) (v := ?_) (a' := ?_) #[true, true, true, true, true, true, true, true, true, true, true, true, true, true, true, true, true, true, true, true, true, true, false, false, false, false, false, false, false, false, false, false, false, false, false] rfl rfl (any_of HT_.out (by kernel_rfl)) (fun _ _ _ h => h) (Or.inl ⟨by rfl, ?_⟩) ?_ ?_
                                    rotate_left
                                    · intro w'
                                      go_simp
                                      with_reducible rfl
                                    rotate_left
                                    · simp only [Act.put, List.setIfInBounds_toArray, List.set_cons_zero, List.set_cons_succ, i64_w, i32_w]
                                      rfl
                                    refine pure_ (i := 22) (N := some 140) (v := ?_) (a' := ?_) #[true, true, true, true, true, true, true, true, true, true, true, true, true, true, true, true, true, true, true, true, true, true, true, false, false, false, false, false, false, false, false, false, false, false, false] rfl rfl (any_of HT_.out (by kernel_rfl)) (fun _ _ _ h => h) (Or.inl ⟨by rfl, ?_⟩) ?_ ?_
                                    rotate_left
                                    · intro w'
                                      go_simp
                                      with_reducible rfl
                                    rotate_left
                                    · simp only [Act.put, List.setIfInBounds_toArray, List.set_cons_zero, List.set_cons_succ, i64_w, i32_w]
                                      rfl
                                    refine pure_ (i := 23) (N := some 141) (v := ?_) (a' := ?_) #[true, true, true, true, true, true, true, true, true, true, true, true, true, true, true, true, true, true, true, true, true, true, true, true, false, false, false, false, false, false, false, false, false, false, false] rfl rfl (any_of HT_.out (by kernel_rfl)) (fun _ _ _ h => h) (Or.inl ⟨by rfl, ?_⟩) ?_ ?_
                                    rotate_left
                                    · intro w'
                                      go_simp
                                      with_reducible rfl
                                    rotate_left
                                    · simp only [Act.put, List.setIfInBounds_toArray, List.set_cons_zero, List.set_cons_succ, i64_w, i32_w]
                                      rfl
                                    refine pure_ (i := 24) (N := some 142) (v := ?_) (a' := ?_) #[true, true, true, true, true, true, true, true, true, true, true, true, true, true, true, true, true, true, true, true, true, true, true, true, true, false, false, false, false, false, false, false, false, false, false] rfl rfl (any_of HT_.out (by kernel_rfl)) (fun _ _ _ h => h) (Or.inl ⟨by rfl, ?_⟩) ?_ ?_
                                    rotate_left
                                    · intro w'
                                      go_simp
                                      with_reducible rfl
                                    rotate_left
                                    · simp only [Act.put, List.setIfInBounds_toArray, List.set_cons_zero, List.set_cons_succ, i64_w, i32_w]
                                      rfl
                                    refine pure_ (i := 25) (N := some 143) (v := ?_) (a' := ?_) #[true, true, true, true, true, true, true, true, true, true, true, true, true, true, true, true, true, true, true, true, true, true, true, true, true, true, false, false, false, false, false, false, false, false, false] rfl rfl (any_of HT_.out (by kernel_rfl)) (fun _ _ _ h => h) (Or.inl ⟨by rfl, ?_⟩) ?_ ?_
                                    rotate_left
                                    · intro w'
                                      go_simp
                                      with_reducible rfl
                                    rotate_left
                                    · simp only [Act.put, List.setIfInBounds_toArray, List.set_cons_zero, List.set_cons_succ, i64_w, i32_w]
                                      rfl
                                    refine pure_ (i := 27) (N := some 145) (v := ?_) (a' := ?_) #[true, true, true, true, true, true, true, true, true, true, true, true, true, true, true, true, true, true, true, true, true, true, true, true, true, true, false, true, false, false, false, false, false, false, false] rfl rfl (any_of HT_.out (by kernel_rfl)) (fun _ _ _ h => h) (Or.inl ⟨by rfl, ?_⟩) ?_ ?_
                                    rotate_left
                                    · intro w'
                                      go_simp
                                      with_reducible rfl
                                    rotate_left
                                    · simp only [Act.put, List.setIfInBounds_toArray, List.set_cons_zero, List.set_cons_succ, i64_w, i32_w]
                                      rfl
                                    refine pure_ (i := 28) (N := some 146) (v := ?_) (a' := ?_) #[true, true, true, true, true, true, true, true, true, true, true, true, true, true, true, true, true, true, true, true, true, true, true, true, true, true, false, true, true, false, false, false, false, false, false] rfl rfl (any_of HT_.out (by kernel_rfl)) (fun _ _ _ h => h) (Or.inl ⟨by rfl, ?_⟩) ?_ ?_
                                    rotate_left
                                    · intro w'
                                      go_simp
                                      with_reducible rfl
                                    rotate_left
                                    · simp only [Act.put, List.setIfInBounds_toArray, List.set_cons_zero, List.set_cons_succ, i64_w, i32_w]
                                      rfl
                                    refine pure_ (i := 29) (N := some 147) (v := ?_) (a' := ?_) #[true, true, true, true, true, true, true, true, true, true, true, true, true, true, true, true, true, true, true, true, true, true, true, true, true, true, false, true, true, true, false, false, false, false, false] rfl rfl (any_of HT_.out (by kernel_rfl)) (fun _ _ _ h => h) (Or.inl ⟨by rfl, ?_⟩) ?_ ?_
                                    rotate_left
                                    · intro w'
                                      go_simp
                                      with_reducible rfl
                                    rotate_left
                                    · simp only [Act.put, List.setIfInBounds_toArray, List.set_cons_zero, List.set_cons_succ, i64_w, i32_w]
                                      rfl
                                    refine pure_ (i := 30) (N := some 148) (v := ?_) (a' := ?_) #[true, true, true, true, true, true, true, true, true, true, true, true, true, true, true, true, true, true, true, true, true, true, true, true, true, true, false, true, true, true, true, false, false, false, false] rfl rfl (any_of HT_.out (by kernel_rfl)) (fun _ _ _ h => h) (Or.inl ⟨by rfl, ?_⟩) ?_ ?_
                                    rotate_left
                                    · intro w'
                                      go_simp
                                      with_reducible rfl
                                    rotate_left
                                    · simp only [Act.put, List.setIfInBounds_toArray, List.set_cons_zero, List.set_cons_succ, i64_w, i32_w]
                                      rfl
                                    refine take_ (i := 26) (N := some 144) (v := ?_) (a' := ?_) #[true, true, true, true, true, true, true, true, true, true, true, true, true, true, true, true, true, true, true, true, true, true, true, true, true, true, true, true, true, true, true, false, false, false, false] rfl rfl (take_ofW HT_.out HW_.out (by kernel_rfl)) (fun _ _ _ h => h) (Or.inl ⟨by rfl, ?_⟩) hHeld ?_ ?_
                                    rotate_left
                                    · rintro w' ⟨s0, s1, s2, s3, s4, s5, s6, s7, s8, s9, s10, s11, s12, s13, s14, s15, s16, s17, s18, s19⟩
                                      go_simp
                                      with_reducible rfl
                                    rotate_left
                                    · simp only [Act.put, List.setIfInBounds_toArray, List.set_cons_zero, List.set_cons_succ, i64_w, i32_w]
                                      rfl
                                    refine take_ (i := 31) (N := some 149) (v := ?_) (a' := ?_) #[true, true, true, true, true, true, true, true, true, true, true, true, true, true, true, true, true, true, true, true, true, true, true, true, true, true, true, true, true, true, true, true, false, false, false] rfl rfl (take_ofW HT_.out HW_.out (by kernel_rfl)) (fun _ _ _ h => h) (Or.inl ⟨by rfl, ?_⟩) hHeld ?_ ?_
                                    rotate_left
                                    · rintro w' ⟨s0, s1, s2, s3, s4, s5, s6, s7, s8, s9, s10, s11, s12, s13, s14, s15, s16, s17, s18, s19⟩
                                      go_simp
                                      with_reducible rfl
                                    rotate_left
                                    · simp only [Act.put, List.setIfInBounds_toArray, List.set_cons_zero, List.set_cons_succ, i64_w, i32_w]
                                      rfl
                                    refine one_ (i := 32) (N := some 150) #[true, true, true, true, true, true, true, true, true, true, true, true, true, true, true, true, true, true, true, true, true, true, true, true, true, true, true, true, true, true, true, true, true, false, false] rfl rfl (one_of HT_.out (by kernel_rfl)) (by decide) (fun K hK => ?_)
                                    refine goes_ Tryd.func13 (by kernel_rfl) rfl #[.slice A252_3 ((rd_T32 t232 x20_2).f3).length c252_3, .slice A251_2 ((rd_T32 t245 x20_2).f2).length c251_2] (by rfl) rfl rfl (by (try simp only [List.map_toArray, List.map_cons, List.map_nil]); first | done | rfl | (simp only [List.length_drop, List.length_take]; rfl)) ?_
                                    with_reducible refine (pollardref19_Same.calls kj57 _ _ ((rd_T32 t232 x20_2).f3) _ _ ((rd_T32 t245 x20_2).f2) true _ ?side1 ?side2 ?side3 ?side4 A66.out).mono ?_
                                    (case side1 => repeat (first | exact (by repeat (first | (with_reducible exact HR255_3.out) | (with_reducible refine Kd.C_alloc ?_ _) | (with_reducible refine Kd.C_drewN ?_ _) | (with_reducible refine Kd.C_drew ?_) | exact HR255_3.out)) | (with_reducible refine Kd.C_alloc ?_ _) | (with_reducible refine Kd.C_drewN ?_ _) | (with_reducible refine Kd.C_drew ?_)))
                                    (case side2 => exact HC255_3.out)
                                    (case side3 => repeat (first | exact (by repeat (first | (with_reducible exact HR256_2.out) | (with_reducible refine Kd.C_alloc ?_ _) | (with_reducible refine Kd.C_drewN ?_ _) | (with_reducible refine Kd.C_drew ?_) | exact HR256_2.out)) | (with_reducible refine Kd.C_alloc ?_ _) | (with_reducible refine Kd.C_drewN ?_ _) | (with_reducible refine Kd.C_drew ?_)))
                                    (case side4 => exact HC256_2.out)
                                    rintro e w' ⟨rfl, ⟨nd, rfl⟩⟩
                                    refine ⟨_, rfl, ?_⟩
                                    refine hK.out _ _ ⟨hHeld.1, hHeld.2.1, hHeld.2.2.1, hHeld.2.2.2.1, hHeld.2.2.2.2.1, hHeld.2.2.2.2.2.1, hHeld.2.2.2.2.2.2.1, hHeld.2.2.2.2.2.2.2.1, hHeld.2.2.2.2.2.2.2.2.1, hHeld.2.2.2.2.2.2.2.2.2.1, hHeld.2.2.2.2.2.2.2.2.2.2.1, hHeld.2.2.2.2.2.2.2.2.2.2.2.1, hHeld.2.2.2.2.2.2.2.2.2.2.2.2.1, hHeld.2.2.2.2.2.2.2.2.2.2.2.2.2.1, hHeld.2.2.2.2.2.2.2.2.2.2.2.2.2.2.1, hHeld.2.2.2.2.2.2.2.2.2.2.2.2.2.2.2.1, hHeld.2.2.2.2.2.2.2.2.2.2.2.2.2.2.2.2.1, hHeld.2.2.2.2.2.2.2.2.2.2.2.2.2.2.2.2.2.1, hHeld.2.2.2.2.2.2.2.2.2.2.2.2.2.2.2.2.2.2.1, hHeld.2.2.2.2.2.2.2.2.2.2.2.2.2.2.2.2.2.2.2⟩ (fun hHeld => ?_)
                                    clear hK K
                                    refine norm_ (a' := ?_) ?_ ?_
                                    rotate_left
                                    · show Act.put _ (some 150) _ = _
                                      simp only [Act.put, List.setIfInBounds_toArray, List.set_cons_zero, List.set_cons_succ, i64_w, i32_w]
                                      rfl
                                    refine pure_ (i := 33) (N := some 151) (v := ?_) (a' := ?_) #[true, true, true, true, true, true, true, true, true, true, true, true, true, true, true, true, true, true, true, true, true, true, true, true, true, true, true, true, true, true, true, true, true, true, false] rfl rfl (any_of HT_.out (by kernel_rfl)) (fun _ _ _ h => h) (Or.inl ⟨by rfl, ?_⟩) ?_ ?_
                                    rotate_left
                                    · intro w'
                                      go_simp
                                      with_reducible rfl
                                    rotate_left
                                    · simp only [Act.put, List.setIfInBounds_toArray, List.set_cons_zero, List.set_cons_succ, i64_w, i32_w]
                                      rfl
                                    refine pure_ (i := 34) (N := some 152) (v := ?_) (a' := ?_) #[true, true, true, true, true, true, true, true, true, true, true, true, true, true, true, true, true, true, true, true, true, true, true, true, true, true, true, true, true, true, true, true, true, true, true] rfl rfl (any_of HT_.out (by kernel_rfl)) (fun _ _ _ h => h) (Or.inl ⟨by rfl, ?_⟩) ?_ ?_
                                    rotate_left
                                    · intro w'
                                      go_simp
                                      with_reducible rfl
                                    rotate_left
                                    · simp only [Act.put, List.setIfInBounds_toArray, List.set_cons_zero, List.set_cons_succ, i64_w, i32_w]
                                      rfl
                                    refine done_ (done_of HT_.out (by kernel_rfl)) ?_
                                    try go_wp2
                                    go_roundg kj57
                                    case measure => have := HJ16.out; have := HK2.out; have := HJ54.out; have := HJ57.out; omega
                                    case rel => exact ⟨(wrap64 (x20_2 + 1)), (by first | rfl | (simp; done) | (simp [*]; done)), H', ⟨by have := HJ16.out; have := HK2.out; have := HJ54.out; have := HJ57.out; omega⟩, ⟨by (with_reducible repeat (first | apply Kd.S_alloc | apply Kd.S_drewN | apply Kd.S_drew)); exact HO_16.out⟩, ⟨by (with_reducible repeat (first | apply Kd.S_alloc | apply Kd.S_drewN | apply Kd.S_drew)); exact HO_18.out⟩, ⟨by repeat (first | (with_reducible first | exact HB.out | apply below_alloc | apply pw_below_drewN | apply below_drew1) | exact HB.out)⟩⟩
                                  · replace c67 := Bool.eq_false_iff.mpr c67
                                    subst c67
                                    have H1 : (none) = some r := by rw [if_neg (show ¬ (false = true) by decide)] at H; exact H
                                    clear H
                                    have H := H1
                                    clear H1
                                    exact absurd H (by simp)
                                · replace c65 := Bool.eq_false_iff.mpr c65
                                  subst c65
                                  have H1 : (none) = some r := by rw [if_neg (show ¬ (false = true) by decide)] at H; exact H
                                  clear H
                                  have H := H1
                                  clear H1
                                  exact absurd H (by simp)
                              · rw [if_neg c63] at H
                                exact absurd H (by simp)
                            · rw [if_neg c62] at H
                              have c62b0 : (((rd_T32 t245 x20_2).f0) == x21_57) = false := beq_eq_false_iff_ne.mpr c62
                              have c62b1 : (((rd_T32 t245 x20_2).f0) != x21_57) = true := bne_iff_ne.mpr c62
                              exact absurd H (by simp)
                          · rw [if_neg c61] at H
                            exact absurd H (by simp)
                        · rw [if_neg c60] at H
                          exact absurd H (by simp)
              · rw [if_neg c54] at H
                exact absurd H (by simp)
            · rw [if_neg c53] at H
              have c53b0 : decide (x20_2 < (t232.length : Int)) = false := decide_eq_false c53
              clear c53
              obtain rfl := Option.some.inj H
              obtain ⟨Ao70, co70, eo70⟩ := Kd.S_slice HO_16.out
              subst eo70
              go_wp2
              go_ret
              exact ⟨by first | rfl | (simp [errW_none, errW_some] <;> rfl) | (simp [*, errW_none, errW_some] <;> rfl), by repeat (first | (with_reducible first | exact HB.out | apply below_alloc | apply pw_below_drewN | apply below_drew1) | exact HB.out)⟩

end Go.Proofs.YtfkajhppdeidjaaDoor.M
