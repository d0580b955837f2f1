/- The program's functions as plain functions, and that each call comes to what these tell; written by a program of this session, some contracts by hand. Conditions: none. -/
import Derived.Test.YtnapcfpecpgdbaaDoorMx0
import Derived.Test.YtnapcfpecpgdbaaDoorMx22
namespace Go.Proofs.YtnapcfpecpgdbaaDoor.M
open Go.RowKit Go.Proofs.YtnapcfpecpgdbaaDoorW.PrintWords Go.Proofs.YtnapcfpecpgdbaaDoorW.PrintLast Go.Proofs.YtnapcfpecpgdbaaDoorW.PrintMore
attribute [local go_sem] max2_int min2_int max_two min_two max_three min_three max_four min_four   -- for this text's walks alone
set_option linter.unusedVariables false
set_option linter.unusedSimpArgs false

/-! ### r6_Get: function 47 -/
mutual
def r6_Get.l0 : Nat → ByteArray → List (S86) → Option ((List (S86)) × Int)
 | 0, _, _ => none
 | k + 1, x0, x4 => if (x0.size : Int) > 0 then ((r6_index.f k x0 0).bind fun t328 => (if t328 < 0 then (r6_Get.j1 k x0 x4 t328 true) else (r6_Get.j1 k x0 x4 t328 (decide ((wrap64 ((wrap64 ((x0.size : Int) - t328)) - 1)) < 32))))) else ((r6_Check.f k x4).bind fun t327 => (if t327 = 0 then (some (x4, 0)) else (some (([] : List (S86)), t327))))
def r6_Get.j1 : Nat → ByteArray → List (S86) → Int → Bool → Option ((List (S86)) × Int)
 | 0, _, _, _, _ => none
 | k + 1, x0, x4, x5, x25 => if x25 = true then (some (([] : List (S86)), 4)) else (if 0 ≤ (wrap64 (x5 + 1)) then (if (wrap64 (x5 + 1)) ≤ (wrap64 (x5 + 33)) then (if (wrap64 (x5 + 33)) ≤ (x0.size : Int) then (r6_Get.l1 k x0 x4 x5 1 (⟨#[]⟩ : ByteArray) 0 (x0.extract ((wrap64 (x5 + 1)) : Int).toNat ((wrap64 (x5 + 33)) : Int).toNat)) else (none)) else (none)) else (none))
def r6_Get.l1 : Nat → ByteArray → List (S86) → Int → Int → ByteArray → Int → ByteArray → Option ((List (S86)) × Int)
 | 0, _, _, _, _, _, _, _ => none
 | k + 1, x0, x4, x5, x7, x330000, x330001, x330002 => if x7 < 4 then ((r6_mode.f x7).bind fun t330 => (if t330.size + 1 ≤ 9223372036854775807 then (if x5 ≥ ((t330.size : Int) + 1) then (if 0 ≤ ((t330.size : Int) + 1) then (if ((t330.size : Int) + 1) ≤ (x0.size : Int) then (if (x0.extract 0 (((t330.size : Int) + 1) : Int).toNat).toList = (t330 ++ (⟨#[32]⟩ : ByteArray)).toList then (if ((t330.size : Int) + 1) ≤ x5 then (if x5 ≤ (x0.size : Int) then (r6_Get.l1 k x0 x4 x5 (wrap64 (x7 + 1)) (x0.extract (((t330.size : Int) + 1) : Int).toNat (x5 : Int).toNat) x7 x330002) else (none)) else (none)) else (r6_Get.l1 k x0 x4 x5 (wrap64 (x7 + 1)) x330000 x330001 x330002)) else (none)) else (none)) else (r6_Get.l1 k x0 x4 x5 (wrap64 (x7 + 1)) x330000 x330001 x330002)) else (none))) else (if x330001 = 0 then (some (([] : List (S86)), 60)) else (if x4.length < 3518437208883 then ((some (x4 ++ [(⟨x330000, x330001, x330002⟩ : S86)] : List (S86))).bind fun y331 => (if 0 ≤ (wrap64 (x5 + 33)) then (if (wrap64 (x5 + 33)) ≤ (x0.size : Int) then (if (y331.length : Int) > 256 then (some (([] : List (S86)), 3)) else (r6_Get.l0 k (x0.extract ((wrap64 (x5 + 33)) : Int).toNat x0.size) y331)) else (none)) else (none))) else (none)))
end
def r6_Get.f (k : Nat) (a0 : ByteArray) : Option ((List (S86)) × Int) := r6_Get.l0 k a0 (([] : List (S86)))
theorem r6_Get.mono_l : ∀ k, (∀ y0 y1, LeO (r6_Get.l0 k y0 y1) (r6_Get.l0 (k + 1) y0 y1)) ∧ (∀ y0 y1 y2 y3, LeO (r6_Get.j1 k y0 y1 y2 y3) (r6_Get.j1 (k + 1) y0 y1 y2 y3)) ∧ (∀ y0 y1 y2 y3 y4 y5 y6, LeO (r6_Get.l1 k y0 y1 y2 y3 y4 y5 y6) (r6_Get.l1 (k + 1) y0 y1 y2 y3 y4 y5 y6))
 | 0 => ⟨fun _ _ r h => by simp [r6_Get.l0] at h, fun _ _ _ _ r h => by simp [r6_Get.j1] at h, fun _ _ _ _ _ _ _ r h => by simp [r6_Get.l1] at h⟩
 | k + 1 => by
  obtain ⟨ih0, ih1, ih2⟩ := r6_Get.mono_l k
  refine ⟨?_, ?_, ?_⟩
  all_goals (intros; first | unfold r6_Get.l0 | unfold r6_Get.j1 | unfold r6_Get.l1)
  all_goals repeat' with_reducible first | exact ih0 _ _ | exact ih1 _ _ _ _ | exact ih2 _ _ _ _ _ _ _ | exact r6_Check.mono _ _ | exact r6_index.mono _ _ _ | exact LeO.refl _ | exact LeO.none _ | refine LeO.ite ?_ ?_ | refine LeO.bind ?_ (fun _ => ?_)
theorem r6_Get.mono : ∀ a0 k, LeO (r6_Get.f k a0) (r6_Get.f (k + 1) a0) := by
 intro a0 k
 obtain ⟨ih0, ih1, ih2⟩ := r6_Get.mono_l k
 unfold r6_Get.f
 repeat' with_reducible first | exact ih0 _ _ | exact ih1 _ _ _ _ | exact ih2 _ _ _ _ _ _ _ | exact r6_Check.mono _ _ | exact r6_index.mono _ _ _ | exact LeO.refl _ | exact LeO.none _ | refine LeO.ite ?_ ?_ | refine LeO.bind ?_ (fun _ => ?_)
def r6_Get.T12 : Bool × List (List Nat × List Nat) := (true, [([], []), ([], []), ([], []), ([2], [2]), ([], []), ([1, 3, 4], [1, 3, 4]), ([0], []), ([6, 0, 0], [0, 6]), ([0, 1, 2, 3, 4, 5, 6, 7], []), ([8, 5, 7, 0, 1, 2, 3, 4, 5, 6, 7], [5, 8])])
def r6_Get.B12 : List Nat := [0, 0, 0, 4, 0, 30, 1, 65, 255, 511]
theorem r6_Get.tab12 : rtab .any (opsOf Tryd.f47 12) = r6_Get.T12 := by kernel_rfl
theorem r6_Get.bits12 : waitsOk r6_Get.T12.2 r6_Get.B12 = true := by kernel_rfl
def r6_Get.T15 : Bool × List (List Nat × List Nat) := (true, [([], []), ([], []), ([1], [1]), ([0, 2], [0, 2]), ([], []), ([], []), ([5], [5]), ([4, 6], [4, 6]), ([3, 3, 0, 1, 2, 3], [0, 3]), ([7, 8, 0, 1, 2, 3, 4, 5, 6, 7, 8], [4, 7])])
def r6_Get.B15 : List Nat := [0, 0, 2, 7, 0, 0, 32, 112, 15, 511]
theorem r6_Get.tab15 : rtab .any (opsOf Tryd.f47 15) = r6_Get.T15 := by kernel_rfl
theorem r6_Get.bits15 : waitsOk r6_Get.T15.2 r6_Get.B15 = true := by kernel_rfl
set_option maxHeartbeats 8000000 in
set_option maxRecDepth 100000 in
theorem r6_Get.calls (k : Nat) (a0 : ByteArray) (r1 : List (S86)) (r2 : Int) (w : World) (h : r6_Get.f k a0 = some (r1, r2)) :
 Calls Tryd.prog 47 #[.string a0] w fun e w' => ∃ v0_ : Value, e = .returned (.tuple #[v0_, .int .i64 r2]) ∧ Kd.R k86 86 w' w.heap.size (fun _ => True) v0_ r1 ∧ Below w.heap.size w w' := by
 have hu86 := Tryd.underlying86
 have HB := Aside0.mk (Below.refl w.heap.size w)
 have H : (r6_Get.l0 k a0 (([] : List (S86)))) = some (r1, r2) := h
 clear h
 obtain ⟨y324, hy324⟩ : ∃ y_ : List (S86), y_ = (([] : List (S86))) := ⟨_, rfl⟩
 replace H : (r6_Get.l0 k a0 y324) = some (r1, r2) := by first | (rw [hy324]; with_reducible exact H) | (have H2_ := (Option.bind_some _ _).symm.trans H; rw [hy324]; with_reducible exact H2_) | (have H2_ := (Option.bind_some _ _).symm.trans H; with_reducible exact H2_) | with_reducible exact H | (rw [hy324]; exact H) | exact H
 have Ny324 := Aside0.mk hy324
 clear hy324
 have H' := Aside0.mk H
 clear H
 go_enter Tryd.func47, Tryd.ntmps47
 go_wp2_with (first | ((with_reducible refine gate_dst (N := 10) rfl ?_); (try (refine gate_guard (by rfl) ?_; dsimp only)); refine Kd.R_lit k86 _ 86 ?hg (N := 10) ?hd (xs := ([] : List (S86))) (inner := []) (ok := fun _ => True) (okp := fun _ => True) ?hr ?hp (fun _ hk => hk) trivial (Below.refl _ _) (Nat.le_refl _) (by simp) ?_; (case hd => rfl); (case hg => rfl); (case hr => first | (go_simp; done) | (go_simp; rfl)); (case hp => exact (Reps.none _ _)); intro v325 w2 ho3 hb hg_ hnew_; clear hg_ hnew_; (first | rw [← Ny324.out] at ho3 | (simp only [Int.reduceToNat] at ho3; rw [← Ny324.out] at ho3)); have n0_ := Aside0.mk (Kd.R_lower ho3 (below_size bz_)); have n1_ := Aside0.mk (below_step bz_ hb); clear HB; have HO326 := n0_; have HB := n1_; clear n0_ n1_; clear hb ho3))
 go_loopg [0, 4] k (fun kq v0 v4 w' => ∃ (x0_1 : ByteArray) (x4_1 : List (S86)), v0 = .string x0_1 ∧ Aside0 (r6_Get.l0 kq x0_1 x4_1 = some (r1, r2)) ∧ Aside0 (kq ≤ k) ∧ Aside0 (Kd.R k86 86 w' w.heap.size (fun _ => True) v4 x4_1) ∧ Aside0 (Below w.heap.size w w'))
 case atStart => exact ⟨(a0), (y324), ez_, H', ⟨Nat.le_refl _⟩, ⟨rz_ HO326.out⟩, ⟨bz_⟩⟩
 case round =>
  clear H'
  try clear p2
  obtain ⟨x0_1, x4_1, rfl, HA, HK1, HO_4, HB⟩ := hrel
  cases gk with
  | zero => exact absurd HA.out (by simp [r6_Get.l0])
  | succ k1 =>
   have H := HA.out
   clear HA
   simp only [r6_Get.l0] at H
   by_cases c4 : (x0_1.size : Int) > 0
   ·
    rw [if_pos c4] at H
    have c4b0 : decide (0 < (x0_1.size : Int)) = true := decide_eq_true c4
    have c4b1 : decide (0 < x0_1.size) = true := decide_eq_true (by omega)
    clear c4
    replace H := Option.bind_eq_some_iff.mp H
    obtain ⟨t328, A50, H⟩ := H
    try dsimp only at H
    have A5 := Aside0.mk A50
    clear A50
    have HC6 := Aside0.mk H
    clear H
    go_upto_region 4 with (first | ((with_reducible refine gate_callee (f := 66) rfl ?_); refine goesM_ (some 15) Tryd.func66 #[.string x0_1, .int .u8 0] ?_; (with_reducible refine (r6_index.calls k1 x0_1 0 t328 _ A5.out).mono ?_); rintro e w' ⟨rfl, ⟨nd, rfl⟩⟩; refine ⟨_, rfl, ?_⟩))
    (try simp only [Act.put, List.setIfInBounds_toArray, List.set_cons_zero, List.set_cons_succ])
    go_cut [25] (fun v25 wc => ∃ (kq : Nat) (x25_5 : Bool), v25 = .bool x25_5 ∧ Aside0 (r6_Get.j1 kq x0_1 x4_1 t328 x25_5 = some (r1, r2)) ∧ Aside0 (kq ≤ k1) ∧ Aside0 (Kd.R k86 86 wc w.heap.size (fun _ => True) u4 x4_1) ∧ Aside0 (Below w.heap.size w wc))
    case first =>
     have H := HC6.out
     clear HC6
     by_cases c7 : t328 < 0
     · rw [if_pos c7] at H
       have c7b0 : decide (t328 < 0) = true := decide_eq_true c7
       clear c7
       (first | rw [c7b0] | (simp only [i64_w, i32_w]; rw [c7b0]) | skip)
       have H' := Aside0.mk H
       clear H
       go_wp2
       go_meet
       case rel => exact ⟨_, (true), ez_, H', ⟨by have := HK1.out; first | omega | exact Nat.le_refl _⟩, ⟨rz_ HO_4.out⟩, ⟨bz_⟩⟩
     · rw [if_neg c7] at H
       have c7b0 : decide (t328 < 0) = false := decide_eq_false c7
       clear c7
       (first | rw [c7b0] | (simp only [i64_w, i32_w]; rw [c7b0]) | skip)
       have H' := Aside0.mk H
       clear H
       go_wp2
       go_meet
       case rel => exact ⟨_, (decide ((wrap64 ((wrap64 ((x0_1.size : Int) - t328)) - 1)) < 32)), ez_, H', ⟨by have := HK1.out; first | omega | exact Nat.le_refl _⟩, ⟨rz_ HO_4.out⟩, ⟨bz_⟩⟩
    case rest =>
     clear HC6
     try clear p2
     try clear c4
     try clear c4b0
     try clear c4b1
     try clear c6
     try clear p6
     try clear c7
     try clear c7b0
     try clear p2
     obtain ⟨kq, x25_5, rfl, HA, HJ5, HO_4, HB⟩ := hcut
     cases kq with
     | zero => exact absurd HA.out (by simp [r6_Get.j1])
     | succ kj5 =>
      have H := HA.out
      clear HA
      simp only [r6_Get.j1] at H
      by_cases c8 : x25_5 = true
      · subst c8
        have H1 := H
        rw [if_pos rfl] at H1
        clear H
        have H := H1
        clear H1
        simp only [Option.some.injEq, Prod.mk.injEq] at H
        obtain ⟨rfl, rfl⟩ := H
        go_wp2
        go_ret2
        exact ⟨_, xz_, nz_, bz_⟩
      ·
       replace c8 := Bool.eq_false_iff.mpr c8
       subst c8
       have H1 := H
       rw [if_neg (show ¬ (false = true) by decide)] at H1
       clear H
       have H := H1
       clear H1
       obtain ⟨ji9, hji9⟩ : ∃ j_ : Int, (wrap64 (t328 + 1)) = j_ := ⟨_, rfl⟩
       replace H : (if 0 ≤ (ji9) then (if (ji9) ≤ (wrap64 (t328 + 33)) then (if (wrap64 (t328 + 33)) ≤ (x0_1.size : Int) then (r6_Get.l1 kj5 x0_1 x4_1 t328 1 (⟨#[]⟩ : ByteArray) 0 (x0_1.extract ((ji9) : Int).toNat ((wrap64 (t328 + 33)) : Int).toNat)) else (none)) else (none)) else (none)) = some (r1, r2) := by first | (rw [hji9] at H; exact H) | (simp only [hji9] at H ⊢; exact H)
       have hji9w : (IntKind.i64.wrap (t328 + 1)) = ji9 := (i64_w _).trans hji9
       by_cases c10 : 0 ≤ (ji9)
       ·
        rw [if_pos c10] at H
        have c10b0 := eq_true c10
        have c10b1 : decide (0 ≤ (ji9)) = true := decide_eq_true c10
        clear c10
        by_cases c11 : (ji9) ≤ (wrap64 (t328 + 33))
        ·
         rw [if_pos c11] at H
         have c11b0 := eq_true c11
         have c11b1 : decide ((ji9) ≤ (wrap64 (t328 + 33))) = true := decide_eq_true c11
         by_cases c12 : (wrap64 (t328 + 33)) ≤ (x0_1.size : Int)
         ·
          rw [if_pos c12] at H
          have c12b0 := eq_true c12
          have c12b1 : decide ((wrap64 (t328 + 33)) ≤ (x0_1.size : Int)) = true := decide_eq_true c12
          have H' := Aside0.mk H
          clear H
          go_wp2_with (first | ((with_reducible refine gate_dst (N := 6) rfl ?_); (try (refine gate_guard (by rfl) ?_; dsimp only)); refine box_event ?hg (N := 6) ?hd (cs := #[.string (⟨#[]⟩ : ByteArray), .int .i64 0, .string (⟨#[]⟩ : ByteArray)]) (t := 86) ?hr ?_; (case hd => rfl); (case hg => rfl); (case hr => first | (go_simp; done) | (go_simp; rfl)); intro gb329 hg w13 hbox hb; have n0_ := Aside0.mk (Kd.R_below (Kd.R_elderB (rz_ HO_4.out) gb329 (Nat.le_of_eq hg.symm)) hb); have n1_ := Aside0.mk (below_step bz_ hb); have n2_ := Aside0.mk (hbox); have n3_ := Aside0.mk ((by rw [hg]; exact (below_size bz_) : w.heap.size ≤ gb329)); have n4_ := Aside0.mk ((by rw [hg]; exact (below_size bz_) : w.heap.size ≤ gb329)); clear HO_4; clear HB; have HO_4 := n0_; have HB := n1_; have BK329 := n2_; have GW329 := n3_; have GE329 := n4_; clear n0_ n1_ n2_ n3_ n4_; clear hb hbox hg; have hcz14_0 : w13.cell? ⟨gb329, 0, none⟩ = some (.string (⟨#[]⟩ : ByteArray)) := (blk_cell BK329.out 0).trans rfl; have hcz14_1 : w13.cell? ⟨gb329, 1, none⟩ = some (.int .i64 0) := (blk_cell BK329.out 1).trans rfl; have hcz14_2 : w13.cell? ⟨gb329, 2, none⟩ = some (.string (⟨#[]⟩ : ByteArray)) := (blk_cell BK329.out 2).trans rfl; have hfz14_0 := blk_frozen BK329.out 0; have hfz14_1 := blk_frozen BK329.out 1; have hfz14_2 := blk_frozen BK329.out 2))
          go_loopg [7] kj5 (fun kq v7 w' => ∃ (x7_3 : Int) (x330000_3 : ByteArray) (x330001_3 : Int), v7 = .int .i64 x7_3 ∧ Aside0 (r6_Get.l1 kq x0_1 x4_1 t328 x7_3 x330000_3 x330001_3 (x0_1.extract ((ji9) : Int).toNat ((wrap64 (t328 + 33)) : Int).toNat) = some (r1, r2)) ∧ Aside0 (kq ≤ kj5) ∧ Aside0 (Kd.R k86 86 w' w.heap.size (fun k_ => k_ ≠ gb329) u4 x4_1) ∧ Aside0 (w'.heap[gb329]? = some (.cells #[.string x330000_3, .int .i64 x330001_3, .string (x0_1.extract ((ji9) : Int).toNat ((wrap64 (t328 + 33)) : Int).toNat)] 86 (0, 0))) ∧ Aside0 (Below w.heap.size w w'))
          case atStart => exact ⟨(1), ((⟨#[]⟩ : ByteArray)), (0), ez_, H', ⟨Nat.le_refl _⟩, ⟨rz_ (Kd.R_mono (Kd.R_far (p := ⟨gb329, 2, none⟩) (Kd.R_far (p := ⟨gb329, 1, none⟩) (Kd.R_far (p := ⟨gb329, 0, none⟩) (Kd.R_mono HO_4.out (fun k_ hk => (⟨hk, hk.2⟩ : _ ∧ k_ ≠ gb329))) (fun _ hk => hk.2) (.string (⟨#[]⟩ : ByteArray))) (fun _ hk => hk.2) (.int .i64 0)) (fun _ hk => hk.2) (.string (x0_1.extract ((ji9) : Int).toNat ((wrap64 (t328 + 33)) : Int).toNat))) (fun _ hk => hk.1.2))⟩, ⟨by (with_reducible repeat (first | refine blk_drewN ?_ _ | refine blk_drew ?_ | refine blk_alloc ?_ _)); refine blk_put (cs := #[.string (⟨#[]⟩ : ByteArray), .int .i64 0, .string (⟨#[]⟩ : ByteArray)]) ?_ 2 _ rfl; (with_reducible repeat (first | refine blk_drewN ?_ _ | refine blk_drew ?_ | refine blk_alloc ?_ _)); refine blk_put (cs := #[.string (⟨#[]⟩ : ByteArray), .int .i64 0, .string (⟨#[]⟩ : ByteArray)]) ?_ 1 _ rfl; (with_reducible repeat (first | refine blk_drewN ?_ _ | refine blk_drew ?_ | refine blk_alloc ?_ _)); refine blk_put (cs := #[.string (⟨#[]⟩ : ByteArray), .int .i64 0, .string (⟨#[]⟩ : ByteArray)]) ?_ 0 _ rfl; (with_reducible repeat (first | refine blk_drewN ?_ _ | refine blk_drew ?_ | refine blk_alloc ?_ _)); exact BK329.out⟩, ⟨bs1_ GE329.out⟩⟩
          case round =>
           clear H'
           try clear c1
           try clear p2
           try clear c4
           try clear c4b0
           try clear c4b1
           try clear c6
           try clear p6
           try clear c7
           try clear c7b0
           try clear c8
           try clear c10
           try clear c10b0
           try clear c10b1
           try clear c11
           try clear c11b0
           try clear c11b1
           try clear c12
           try clear c12b0
           try clear c12b1
           try clear hcz14_0
           try clear hcz14_1
           try clear hcz14_2
           try clear hfz14_0
           try clear hfz14_1
           try clear hfz14_2
           try clear p2
           try clear p6
           obtain ⟨x7_3, x330000_3, x330001_3, rfl, HA, HK3, HO_4, BK329, HB⟩ := hrel
           cases gk with
           | zero => exact absurd HA.out (by simp [r6_Get.l1])
           | succ k3 =>
            have H := HA.out
            clear HA
            simp only [r6_Get.l1] at H
            by_cases c15 : x7_3 < 4
            ·
             rw [if_pos c15] at H
             have c15b0 : decide (x7_3 < 4) = true := decide_eq_true c15
             clear c15
             replace H := Option.bind_eq_some_iff.mp H
             obtain ⟨t330, A160, H⟩ := H
             try dsimp only at H
             have A16 := Aside0.mk A160
             clear A160
             by_cases c17 : t330.size + 1 ≤ 9223372036854775807
             ·
              rw [if_pos c17] at H
              have c17b0 := eq_true c17
              have c17b1 : decide (t330.size + 1 ≤ 9223372036854775807) = true := decide_eq_true c17
              try have c17b2 : (9223372036854775807 < t330.size + 1) = False := eq_false (Nat.not_lt.2 c17)
              by_cases c18 : t328 ≥ ((t330.size : Int) + 1)
              ·
               rw [if_pos c18] at H
               have c18b0 : decide (((t330.size : Int) + 1) ≤ t328) = true := decide_eq_true c18
               clear c18
               obtain ⟨ji19, hji19⟩ : ∃ j_ : Int, ((t330.size : Int) + 1) = j_ := ⟨_, rfl⟩
               replace H : (if 0 ≤ (ji19) then (if (ji19) ≤ (x0_1.size : Int) then (if (x0_1.extract 0 ((ji19) : Int).toNat).toList = (t330 ++ (⟨#[32]⟩ : ByteArray)).toList then (if (ji19) ≤ t328 then (if t328 ≤ (x0_1.size : Int) then (r6_Get.l1 k3 x0_1 x4_1 t328 (wrap64 (x7_3 + 1)) (x0_1.extract ((ji19) : Int).toNat (t328 : Int).toNat) x7_3 (x0_1.extract ((ji9) : Int).toNat ((wrap64 (t328 + 33)) : Int).toNat)) else (none)) else (none)) else (r6_Get.l1 k3 x0_1 x4_1 t328 (wrap64 (x7_3 + 1)) x330000_3 x330001_3 (x0_1.extract ((ji9) : Int).toNat ((wrap64 (t328 + 33)) : Int).toNat))) else (none)) else (none)) = some (r1, r2) := by first | (rw [hji19] at H; exact H) | (simp only [hji19] at H ⊢; exact H)
               (try rw [hji19] at c18b0)
               (try rw [hji19] at BK329)
               (try rw [hji19] at A16)
               by_cases c20 : 0 ≤ (ji19)
               ·
                rw [if_pos c20] at H
                have c20b0 := eq_true c20
                have c20b1 : decide (0 ≤ (ji19)) = true := decide_eq_true c20
                clear c20
                by_cases c21 : (ji19) ≤ (x0_1.size : Int)
                ·
                 rw [if_pos c21] at H
                 have c21b0 := eq_true c21
                 have c21b1 : decide ((ji19) ≤ (x0_1.size : Int)) = true := decide_eq_true c21
                 clear c21
                 by_cases c22 : (x0_1.extract 0 ((ji19) : Int).toNat).toList = (t330 ++ (⟨#[32]⟩ : ByteArray)).toList
                 ·
                  rw [if_pos c22] at H
                  have c22b0 : ((x0_1.extract 0 ((ji19) : Int).toNat).toList == (t330 ++ (⟨#[32]⟩ : ByteArray)).toList) = true := beq_iff_eq.mpr c22
                  have c22b1 : ((x0_1.extract 0 ((ji19) : Int).toNat).toList != (t330 ++ (⟨#[32]⟩ : ByteArray)).toList) = false := bne_eq_false_iff_eq.mpr c22
                  clear c22
                  have c23b0 := eq_true (of_decide_eq_true az_ : 0 ≤ (ji19))
                  by_cases c24 : (ji19) ≤ t328
                  ·
                   rw [if_pos c24] at H
                   have c24b0 := eq_true c24
                   have c24b1 : decide ((ji19) ≤ t328) = true := decide_eq_true c24
                   clear c24
                   by_cases c25 : t328 ≤ (x0_1.size : Int)
                   ·
                    rw [if_pos c25] at H
                    have c25b0 := eq_true c25
                    have c25b1 : decide (t328 ≤ (x0_1.size : Int)) = true := decide_eq_true c25
                    clear c25
                    have H' := Aside0.mk H
                    clear H
                    try go_wp2_with (first | ((with_reducible refine gate_callee (f := 67) rfl ?_); refine goesM_ (some 38) Tryd.func67 #[.int .i64 x7_3] ?_; (with_reducible refine (r6_mode.calls x7_3 t330 _ A16.out).mono ?_); rintro e w26 ⟨rfl, hb⟩; refine ⟨_, rfl, ?_⟩; have n0_ := Aside0.mk (Kd.R_below (rz_ HO_4.out) hb); have n1_ := Aside0.mk (blk_below (g := gb329) (o := .cells #[.string x330000_3, .int .i64 x330001_3, .string (x0_1.extract ((ji9) : Int).toNat ((wrap64 (t328 + 33)) : Int).toNat)] 86 (0, 0)) (kz_ BK329.out) hb); have n2_ := Aside0.mk (below_step (bs1_ GE329.out) hb); clear HO_4; clear BK329; clear HB; have HO_4 := n0_; have BK329 := n1_; have HB := n2_; clear n0_ n1_ n2_; (try clear hb); (try clear hb2); (try clear hk); (try clear hi)))
                    have n0_ := Aside0.mk (Kd.R_drew HO_4.out)
                    have n1_ := Aside0.mk (blk_drew BK329.out)
                    have n2_ := Aside0.mk (below_drew1 HB.out)
                    clear HO_4
                    clear BK329
                    clear HB
                    have HO_4 := n0_
                    have BK329 := n1_
                    have HB := n2_
                    clear n0_ n1_ n2_
                    refine start_ (n := 10) (S := fun w' => True) (ds := []) #[false, false, false, false, false, false, false, false, false, false] (by kernel_rfl) rfl rfl trivial (fun hHeld => ?_); refine with_tabW r6_Get.tab12 r6_Get.bits12 (fun HT_ HW_ => ?_)
                    generalize w26.drew = w27 at HO_4 BK329 HB hHeld ⊢
                    refine pure_ (i := 0) (N := some 52) (v := ?_) (a' := ?_) #[true, false, false, false, false, false, false, false, false, false] rfl rfl (any_of HT_.out (by kernel_rfl)) (fun _ _ _ h => h) (Or.inl ⟨by rfl, ?_⟩) ?_ ?_
                    rotate_left
                    · intro w'
                      go_simp
                      with_reducible rfl
                    rotate_left
                    · simp only [Act.put, List.setIfInBounds_toArray, List.set_cons_zero, List.set_cons_succ, i64_w, i32_w]
                      rfl
                    refine pure_ (i := 1) (N := some 53) (v := ?_) (a' := ?_) #[true, true, false, false, false, false, false, false, false, false] rfl rfl (any_of HT_.out (by kernel_rfl)) (fun _ _ _ h => h) (Or.inl ⟨by rfl, ?_⟩) ?_ ?_
                    rotate_left
                    · intro w'
                      go_simp
                      with_reducible rfl
                    rotate_left
                    · simp only [Act.put, List.setIfInBounds_toArray, List.set_cons_zero, List.set_cons_succ, i64_w, i32_w]
                      rfl
                    refine pure_ (i := 2) (N := some 54) (v := ?_) (a' := ?_) #[true, true, true, false, false, false, false, false, false, false] rfl rfl (any_of HT_.out (by kernel_rfl)) (fun _ _ _ h => h) (Or.inl ⟨by rfl, ?_⟩) ?_ ?_
                    rotate_left
                    · intro w'
                      go_simp
                      with_reducible rfl
                    rotate_left
                    · simp only [Act.put, List.setIfInBounds_toArray, List.set_cons_zero, List.set_cons_succ, i64_w, i32_w]
                      rfl
                    refine pure_ (i := 3) (N := some 55) (v := ?_) (a' := ?_) #[true, true, true, true, false, false, false, false, false, false] rfl rfl (any_of HT_.out (by kernel_rfl)) (fun _ _ _ h => h) (Or.inl ⟨by rfl, ?_⟩) ?_ ?_
                    rotate_left
                    · intro w'
                      go_simp
                      with_reducible rfl
                    rotate_left
                    · simp only [Act.put, List.setIfInBounds_toArray, List.set_cons_zero, List.set_cons_succ, i64_w, i32_w]
                      rfl
                    refine pure_ (i := 4) (N := some 56) (v := ?_) (a' := ?_) #[true, true, true, true, true, false, false, false, false, false] rfl rfl (any_of HT_.out (by kernel_rfl)) (fun _ _ _ h => h) (Or.inl ⟨by rfl, ?_⟩) ?_ ?_
                    rotate_left
                    · intro w'
                      go_simp
                      with_reducible rfl
                    rotate_left
                    · simp only [Act.put, List.setIfInBounds_toArray, List.set_cons_zero, List.set_cons_succ, i64_w, i32_w]
                      rfl
                    refine pure_ (i := 5) (N := some 57) (v := ?_) (a' := ?_) #[true, true, true, true, true, true, false, false, false, false] rfl rfl (any_of HT_.out (by kernel_rfl)) (fun _ _ _ h => h) (Or.inl ⟨by rfl, ?_⟩) ?_ ?_
                    rotate_left
                    · intro w'
                      go_simp
                      with_reducible rfl
                    rotate_left
                    · simp only [Act.put, List.setIfInBounds_toArray, List.set_cons_zero, List.set_cons_succ, i64_w, i32_w]
                      rfl
                    refine pure_ (i := 6) (N := some 58) (v := ?_) (a' := ?_) #[true, true, true, true, true, true, true, false, false, false] rfl rfl (any_of HT_.out (by kernel_rfl)) (fun _ _ _ h => h) (Or.inl ⟨by rfl, ?_⟩) ?_ ?_
                    rotate_left
                    · intro w'
                      go_simp
                      with_reducible rfl
                    rotate_left
                    · simp only [Act.put, List.setIfInBounds_toArray, List.set_cons_zero, List.set_cons_succ, i64_w, i32_w]
                      rfl
                    refine one_ (i := 7) (N := none) #[true, true, true, true, true, true, true, true, false, false] rfl rfl (one_of HT_.out (by kernel_rfl)) (by decide) (fun K hK => ?_)
                    have hs28 : w27.cell? ⟨gb329, 1, none⟩ = some (.int .i64 x330001_3) := (blk_cell BK329.out 1).trans rfl
                    have hfs28 := blk_frozen BK329.out 1
                    refine skip_ (w1 := ?_) (by rfl) rfl ?_ ?_
                    rotate_left
                    · go_simp
                      rfl
                    refine hK.out _ _ trivial (fun hHeld => ?_)
                    clear hK K
                    refine pure_ (i := 8) (N := some 59) (v := ?_) (a' := ?_) #[true, true, true, true, true, true, true, true, true, false] rfl rfl (any_of HT_.out (by kernel_rfl)) (fun _ _ _ h => h) (Or.inl ⟨by rfl, ?_⟩) ?_ ?_
                    rotate_left
                    · intro w'
                      go_simp
                      with_reducible rfl
                    rotate_left
                    · simp only [Act.put, List.setIfInBounds_toArray, List.set_cons_zero, List.set_cons_succ, i64_w, i32_w]
                      rfl
                    refine one_ (i := 9) (N := none) #[true, true, true, true, true, true, true, true, true, true] rfl rfl (one_of HT_.out (by kernel_rfl)) (by decide) (fun K hK => ?_)
                    have hs29 : w27.cell? ⟨gb329, 0, none⟩ = some (.string x330000_3) := (blk_cell BK329.out 0).trans rfl
                    have hfs29 := blk_frozen BK329.out 0
                    refine skip_ (w1 := ?_) (by rfl) rfl ?_ ?_
                    rotate_left
                    · go_simp
                      rfl
                    refine hK.out _ _ trivial (fun hHeld => ?_)
                    clear hK K
                    refine done_ (done_of HT_.out (by kernel_rfl)) ?_
                    try go_wp2
                    go_roundg k3
                    case measure => have := HK1.out; have := HJ5.out; have := HK3.out; omega
                    case rel => exact ⟨(wrap64 (x7_3 + 1)), (x0_1.extract ((ji19) : Int).toNat (t328 : Int).toNat), (x7_3), ez_, H', ⟨by have := HK1.out; have := HJ5.out; have := HK3.out; omega⟩, ⟨rz_ (Kd.R_mono (Kd.R_far (p := ⟨gb329, 0, none⟩) (Kd.R_far (p := ⟨gb329, 1, none⟩) (Kd.R_mono HO_4.out (fun k_ hk => (⟨hk, hk⟩ : _ ∧ k_ ≠ gb329))) (fun _ hk => hk.2) (.int .i64 x7_3)) (fun _ hk => hk.2) (.string (x0_1.extract ((ji19) : Int).toNat (t328 : Int).toNat))) (fun _ hk => hk.1))⟩, ⟨by (with_reducible repeat (first | refine blk_drewN ?_ _ | refine blk_drew ?_ | refine blk_alloc ?_ _)); refine blk_put (cs := #[.string x330000_3, .int .i64 x7_3, .string (x0_1.extract ((ji9) : Int).toNat ((wrap64 (t328 + 33)) : Int).toNat)]) ?_ 0 _ rfl; (with_reducible repeat (first | refine blk_drewN ?_ _ | refine blk_drew ?_ | refine blk_alloc ?_ _)); refine blk_put (cs := #[.string x330000_3, .int .i64 x330001_3, .string (x0_1.extract ((ji9) : Int).toNat ((wrap64 (t328 + 33)) : Int).toNat)]) ?_ 1 _ rfl; (with_reducible repeat (first | refine blk_drewN ?_ _ | refine blk_drew ?_ | refine blk_alloc ?_ _)); exact BK329.out⟩, ⟨bs1_ GE329.out⟩⟩
                   · rw [if_neg c25] at H
                     exact absurd H (by simp)
                  · rw [if_neg c24] at H
                    exact absurd H (by simp)
                 · rw [if_neg c22] at H
                   have c22b0 : ((x0_1.extract 0 ((ji19) : Int).toNat).toList == (t330 ++ (⟨#[32]⟩ : ByteArray)).toList) = false := beq_eq_false_iff_ne.mpr c22
                   have c22b1 : ((x0_1.extract 0 ((ji19) : Int).toNat).toList != (t330 ++ (⟨#[32]⟩ : ByteArray)).toList) = true := bne_iff_ne.mpr c22
                   have H' := Aside0.mk H
                   clear H
                   go_wp2_with (first | ((with_reducible refine gate_callee (f := 67) rfl ?_); refine goesM_ (some 38) Tryd.func67 #[.int .i64 x7_3] ?_; (with_reducible refine (r6_mode.calls x7_3 t330 _ A16.out).mono ?_); rintro e w30 ⟨rfl, hb⟩; refine ⟨_, rfl, ?_⟩; have n0_ := Aside0.mk (Kd.R_below (rz_ HO_4.out) hb); have n1_ := Aside0.mk (blk_below (g := gb329) (o := .cells #[.string x330000_3, .int .i64 x330001_3, .string (x0_1.extract ((ji9) : Int).toNat ((wrap64 (t328 + 33)) : Int).toNat)] 86 (0, 0)) (kz_ BK329.out) hb); have n2_ := Aside0.mk (below_step (bs1_ GE329.out) hb); clear HO_4; clear BK329; clear HB; have HO_4 := n0_; have BK329 := n1_; have HB := n2_; clear n0_ n1_ n2_; (try clear hb); (try clear hb2); (try clear hk); (try clear hi)))
                   go_roundg k3
                   case measure => have := HK1.out; have := HJ5.out; have := HK3.out; omega
                   case rel => exact ⟨(wrap64 (x7_3 + 1)), (x330000_3), (x330001_3), ez_, H', ⟨by have := HK1.out; have := HJ5.out; have := HK3.out; omega⟩, ⟨rz_ HO_4.out⟩, ⟨kz_ BK329.out⟩, ⟨bs1_ GE329.out⟩⟩
                · rw [if_neg c21] at H
                  exact absurd H (by simp)
               · rw [if_neg c20] at H
                 exact absurd H (by simp)
              · rw [if_neg c18] at H
                have c18b0 : decide (((t330.size : Int) + 1) ≤ t328) = false := decide_eq_false c18
                clear c18
                have H' := Aside0.mk H
                clear H
                go_wp2_with (first | ((with_reducible refine gate_callee (f := 67) rfl ?_); refine goesM_ (some 38) Tryd.func67 #[.int .i64 x7_3] ?_; (with_reducible refine (r6_mode.calls x7_3 t330 _ A16.out).mono ?_); rintro e w31 ⟨rfl, hb⟩; refine ⟨_, rfl, ?_⟩; have n0_ := Aside0.mk (Kd.R_below (rz_ HO_4.out) hb); have n1_ := Aside0.mk (blk_below (g := gb329) (o := .cells #[.string x330000_3, .int .i64 x330001_3, .string (x0_1.extract ((ji9) : Int).toNat ((wrap64 (t328 + 33)) : Int).toNat)] 86 (0, 0)) (kz_ BK329.out) hb); have n2_ := Aside0.mk (below_step (bs1_ GE329.out) hb); clear HO_4; clear BK329; clear HB; have HO_4 := n0_; have BK329 := n1_; have HB := n2_; clear n0_ n1_ n2_; (try clear hb); (try clear hb2); (try clear hk); (try clear hi)))
                go_roundg k3
                case measure => have := HK1.out; have := HJ5.out; have := HK3.out; omega
                case rel => exact ⟨(wrap64 (x7_3 + 1)), (x330000_3), (x330001_3), ez_, H', ⟨by have := HK1.out; have := HJ5.out; have := HK3.out; omega⟩, ⟨rz_ HO_4.out⟩, ⟨kz_ BK329.out⟩, ⟨bs1_ GE329.out⟩⟩
             · rw [if_neg c17] at H
               exact absurd H (by simp)
            ·
             rw [if_neg c15] at H
             have c15b0 : decide (x7_3 < 4) = false := decide_eq_false c15
             clear c15
             by_cases c32 : x330001_3 = 0
             ·
              rw [if_pos c32] at H
              have c32b0 : (x330001_3 == 0) = true := beq_iff_eq.mpr c32
              have c32b1 : (x330001_3 != 0) = false := bne_eq_false_iff_eq.mpr c32
              clear c32
              simp only [Option.some.injEq, Prod.mk.injEq] at H
              obtain ⟨rfl, rfl⟩ := H
              have hcz33_0 : wr.cell? ⟨gb329, 0, none⟩ = some (.string x330000_3) := (blk_cell BK329.out 0).trans rfl
              have hcz33_1 : wr.cell? ⟨gb329, 1, none⟩ = some (.int .i64 x330001_3) := (blk_cell BK329.out 1).trans rfl
              have hcz33_2 : wr.cell? ⟨gb329, 2, none⟩ = some (.string (x0_1.extract ((ji9) : Int).toNat ((wrap64 (t328 + 33)) : Int).toNat)) := (blk_cell BK329.out 2).trans rfl
              have hfz33_0 := blk_frozen BK329.out 0
              have hfz33_1 := blk_frozen BK329.out 1
              have hfz33_2 := blk_frozen BK329.out 2
              go_wp2
              go_ret2
              exact ⟨_, by first | rfl | (simp [errW_none, errW_some] <;> rfl) | (simp only [← hji9]; first | rfl | (simp [errW_none, errW_some] <;> rfl)) | (simp [*, errW_none, errW_some] <;> rfl), nz_, bs1_ GE329.out⟩
             ·
              rw [if_neg c32] at H
              have c32b0 : (x330001_3 == 0) = false := beq_eq_false_iff_ne.mpr c32
              have c32b1 : (x330001_3 != 0) = true := bne_iff_ne.mpr c32
              by_cases c34 : x4_1.length < 3518437208883
              ·
               rw [if_pos c34] at H
               have LMc34 := Aside0.mk c34
               clear c34
               obtain ⟨y331, hy331⟩ : ∃ y_ : List (S86), y_ = (x4_1 ++ [(⟨x330000_3, x330001_3, (x0_1.extract ((ji9) : Int).toNat ((wrap64 (t328 + 33)) : Int).toNat)⟩ : S86)]) := ⟨_, rfl⟩
               replace H : (if 0 ≤ (wrap64 (t328 + 33)) then (if (wrap64 (t328 + 33)) ≤ (x0_1.size : Int) then (if (y331.length : Int) > 256 then (some (([] : List (S86)), 3)) else (r6_Get.l0 k3 (x0_1.extract ((wrap64 (t328 + 33)) : Int).toNat x0_1.size) y331)) else (none)) else (none)) = some (r1, r2) := by first | (rw [hy331]; with_reducible exact H) | (have H2_ := (Option.bind_some _ _).symm.trans H; rw [hy331]; with_reducible exact H2_) | (have H2_ := (Option.bind_some _ _).symm.trans H; with_reducible exact H2_) | with_reducible exact H | (rw [hy331]; exact H) | exact H
               have Ny331 := Aside0.mk hy331
               clear hy331
               obtain ⟨ji35, hji35⟩ : ∃ j_ : Int, (wrap64 (t328 + 33)) = j_ := ⟨_, rfl⟩
               replace H : (if 0 ≤ (ji35) then (if (ji35) ≤ (x0_1.size : Int) then (if (y331.length : Int) > 256 then (some (([] : List (S86)), 3)) else (r6_Get.l0 k3 (x0_1.extract ((ji35) : Int).toNat x0_1.size) y331)) else (none)) else (none)) = some (r1, r2) := by first | (rw [hji35] at H; exact H) | (simp only [hji35] at H ⊢; exact H)
               (try rw [hji35] at c11b0)
               (try rw [hji35] at c11b1)
               (try rw [hji35] at c11)
               (try rw [hji35] at c12b0)
               (try rw [hji35] at c12b1)
               (try rw [hji35] at c12)
               (try rw [hji35] at BK329)
               (try rw [hji35] at Ny331)
               have hji35w : (IntKind.i64.wrap (t328 + 33)) = ji35 := (i64_w _).trans hji35
               by_cases c36 : 0 ≤ (ji35)
               ·
                rw [if_pos c36] at H
                have c36b0 := eq_true c36
                have c36b1 : decide (0 ≤ (ji35)) = true := decide_eq_true c36
                clear c36
                by_cases c37 : (ji35) ≤ (x0_1.size : Int)
                ·
                 rw [if_pos c37] at H
                 have c37b0 := eq_true c37
                 have c37b1 : decide ((ji35) ≤ (x0_1.size : Int)) = true := decide_eq_true c37
                 clear c37
                 by_cases c38 : (y331.length : Int) > 256
                 ·
                  rw [if_pos c38] at H
                  have c38b0 : decide (256 < (y331.length : Int)) = true := decide_eq_true c38
                  have c38b1 : decide (256 < y331.length) = true := decide_eq_true (by omega)
                  clear c38
                  simp only [Option.some.injEq, Prod.mk.injEq] at H
                  obtain ⟨rfl, rfl⟩ := H
                  have hcz39_0 : wr.cell? ⟨gb329, 0, none⟩ = some (.string x330000_3) := (blk_cell BK329.out 0).trans rfl
                  have hcz39_1 : wr.cell? ⟨gb329, 1, none⟩ = some (.int .i64 x330001_3) := (blk_cell BK329.out 1).trans rfl
                  have hcz39_2 : wr.cell? ⟨gb329, 2, none⟩ = some (.string (x0_1.extract ((ji9) : Int).toNat ((ji35) : Int).toNat)) := (blk_cell BK329.out 2).trans rfl
                  have hfz39_0 := blk_frozen BK329.out 0
                  have hfz39_1 := blk_frozen BK329.out 1
                  have hfz39_2 := blk_frozen BK329.out 2
                  try go_wp2
                  have n0_ := Aside0.mk (Kd.R_drew HO_4.out)
                  have n1_ := Aside0.mk (blk_drew BK329.out)
                  have n2_ := Aside0.mk (below_drew1 HB.out)
                  clear HO_4
                  clear BK329
                  clear HB
                  have HO_4 := n0_
                  have BK329 := n1_
                  have HB := n2_
                  clear n0_ n1_ n2_
                  refine start_ (n := 10) (S := fun w' => w'.cell? ⟨gb329, 0, none⟩ = some (.string x330000_3) ∧ w'.cell? ⟨gb329, 1, none⟩ = some (.int .i64 x330001_3) ∧ w'.cell? ⟨gb329, 2, none⟩ = some (.string (x0_1.extract ((ji9) : Int).toNat ((ji35) : Int).toNat))) (ds := []) #[false, false, false, false, false, false, false, false, false, false] (by kernel_rfl) rfl rfl ⟨(blk_cell BK329.out 0).trans rfl, (blk_cell BK329.out 1).trans rfl, (blk_cell BK329.out 2).trans rfl⟩ (fun hHeld => ?_); refine with_tabW r6_Get.tab15 r6_Get.bits15 (fun HT_ HW_ => ?_)
                  generalize wr.drew = w40 at HO_4 BK329 HB hHeld ⊢
                  refine pure_ (i := 0) (N := some 63) (v := ?_) (a' := ?_) #[true, false, false, false, false, false, false, false, false, false] rfl rfl (any_of HT_.out (by kernel_rfl)) (fun _ _ _ h => h) (Or.inl ⟨by rfl, ?_⟩) ?_ ?_
                  rotate_left
                  · intro w'
                    go_simp
                    with_reducible rfl
                  rotate_left
                  · simp only [Act.put, List.setIfInBounds_toArray, List.set_cons_zero, List.set_cons_succ, i64_w, i32_w]
                    rfl
                  refine pure_ (i := 4) (N := some 67) (v := ?_) (a' := ?_) #[true, false, false, false, true, false, false, false, false, false] rfl rfl (any_of HT_.out (by kernel_rfl)) (fun _ _ _ h => h) (Or.inl ⟨by rfl, ?_⟩) ?_ ?_
                  rotate_left
                  · intro w'
                    go_simp
                    with_reducible rfl
                  rotate_left
                  · simp only [Act.put, List.setIfInBounds_toArray, List.set_cons_zero, List.set_cons_succ, i64_w, i32_w]
                    rfl
                  refine pure_ (i := 5) (N := some 68) (v := ?_) (a' := ?_) #[true, false, false, false, true, true, false, false, false, false] rfl rfl (any_of HT_.out (by kernel_rfl)) (fun _ _ _ h => h) (Or.inl ⟨by rfl, ?_⟩) ?_ ?_
                  rotate_left
                  · intro w'
                    go_simp
                    with_reducible rfl
                  rotate_left
                  · simp only [Act.put, List.setIfInBounds_toArray, List.set_cons_zero, List.set_cons_succ, i64_w, i32_w]
                    rfl
                  refine pure_ (i := 6) (N := some 69) (v := ?_) (a' := ?_) #[true, false, false, false, true, true, true, false, false, false] rfl rfl (any_of HT_.out (by kernel_rfl)) (fun _ _ _ h => h) (Or.inl ⟨by rfl, ?_⟩) ?_ ?_
                  rotate_left
                  · intro w'
                    go_simp
                    with_reducible rfl
                  rotate_left
                  · simp only [Act.put, List.setIfInBounds_toArray, List.set_cons_zero, List.set_cons_succ, i64_w, i32_w]
                    rfl
                  refine pure_ (i := 7) (N := some 70) (v := ?_) (a' := ?_) #[true, false, false, false, true, true, true, true, false, false] rfl rfl (any_of HT_.out (by kernel_rfl)) (fun _ _ _ h => h) (Or.inl ⟨by rfl, ?_⟩) ?_ ?_
                  rotate_left
                  · intro w'
                    go_simp
                    with_reducible rfl
                  rotate_left
                  · simp only [Act.put, List.setIfInBounds_toArray, List.set_cons_zero, List.set_cons_succ, i64_w, i32_w]
                    rfl
                  refine take_ (i := 1) (N := some 64) (v := ?_) (a' := ?_) #[true, true, false, false, true, true, true, true, false, false] rfl rfl (take_ofW HT_.out HW_.out (by kernel_rfl)) (fun _ _ _ h => h) (Or.inl ⟨by rfl, ?_⟩) hHeld ?_ ?_
                  rotate_left
                  · rintro w' ⟨s0, s1, s2⟩
                    go_simp
                    with_reducible rfl
                  rotate_left
                  · simp only [Act.put, List.setIfInBounds_toArray, List.set_cons_zero, List.set_cons_succ, i64_w, i32_w]
                    rfl
                  refine one_ (i := 2) (N := some 65) #[true, true, true, false, true, true, true, true, false, false] rfl rfl (one_of HT_.out (by kernel_rfl)) (by decide) (fun K hK => ?_)
                  refine value_ (w1 := ?_) (v := ?_) (by rfl) rfl ?_ ?_
                  rotate_left 2
                  · go_simp
                    constructor
                    · rfl
                    · rfl
                  refine hK.out _ _ ⟨(blk_cell (blk_alloc BK329.out _) 0).trans rfl, (blk_cell (blk_alloc BK329.out _) 1).trans rfl, (blk_cell (blk_alloc BK329.out _) 2).trans rfl⟩ (fun hHeld => ?_)
                  clear hK K
                  refine norm_ (a' := ?_) ?_ ?_
                  rotate_left
                  · show Act.put _ (some 65) _ = _
                    simp only [Act.put, List.setIfInBounds_toArray, List.set_cons_zero, List.set_cons_succ, i64_w, i32_w]
                    rfl
                  refine one_ (i := 3) (N := some 66) #[true, true, true, true, true, true, true, true, false, false] rfl rfl (one_of HT_.out (by kernel_rfl)) (by decide) (fun K hK => ?_)
                  refine Kd.R_append_step k86 (w0 := w) w.heap.size (by rfl) (.tmp 63) (.tmp 65) 83 86 (.agg #[(.string ⟨#[]⟩), (.int .i64 0), (.string ⟨#[]⟩)]) 40 rfl Tryd.underlying83 info86 rfl (by decide) (by omega) u4 x4_1 (⟨x330000_3, x330001_3, (x0_1.extract ((ji9) : Int).toNat ((ji35) : Int).toNat)⟩ : S86) [.string x330000_3, .int .i64 x330001_3, .string (x0_1.extract ((ji9) : Int).toNat ((ji35) : Int).toNat)] (fun k_ => k_ ≠ gb329) (fun _ => False) rfl rfl ?aP (fun _ hk => hk.elim) ?aF ?aO ?aB ?aS ?aL ?_
                  (case aP => exact k86_mkM _ _ _ (⟨x330000_3, x330001_3, (x0_1.extract ((ji9) : Int).toNat ((ji35) : Int).toNat)⟩ : S86))
                  (case aB => exact (bs1_ GE329.out))
                  (case aF => exact (fun k_ hk => Kd.freshB (g := gb329) (o := .cells #[.string x330000_3, .int .i64 x330001_3, .string (x0_1.extract ((ji9) : Int).toNat ((ji35) : Int).toNat)] 86 (0, 0)) (kz_ BK329.out) k_ hk))
                  (case aO => exact (rz_ HO_4.out))
                  (case aS => exact (below_size (bs1_ GE329.out)))
                  (case aL => have := LMc34.out; omega)
                  intro v332 w41 ho hb hg hat
                  rw [← Ny331.out] at ho
                  have n0_ := Aside0.mk (blk_grown (g := gb329) (o := .cells #[.string x330000_3, .int .i64 x330001_3, .string (x0_1.extract ((ji9) : Int).toNat ((ji35) : Int).toNat)] 86 (0, 0)) (kz_ BK329.out) hg (Kd.R_away HO_4.out (fun _ hk => hk)))
                  have n1_ := Aside0.mk (hb)
                  have n2_ := Aside0.mk (ho)
                  clear BK329
                  clear HB
                  clear HO_4
                  have BK329 := n0_
                  have HB := n1_
                  have HO333 := n2_
                  clear n0_ n1_ n2_
                  clear ho hb hg hat
                  refine hK.out _ _ ⟨(blk_cell BK329.out 0).trans rfl, (blk_cell BK329.out 1).trans rfl, (blk_cell BK329.out 2).trans rfl⟩ (fun hHeld => ?_)
                  clear hK K
                  refine norm_ (a' := ?_) ?_ ?_
                  rotate_left
                  · show Act.put _ (some 66) _ = _
                    simp only [Act.put, List.setIfInBounds_toArray, List.set_cons_zero, List.set_cons_succ, i64_w, i32_w]
                    rfl
                  refine pure_ (i := 8) (N := some 4) (v := ?_) (a' := ?_) #[true, true, true, true, true, true, true, true, true, false] rfl rfl (any_of HT_.out (by kernel_rfl)) (fun _ _ _ h => h) (Or.inl ⟨by rfl, ?_⟩) ?_ ?_
                  rotate_left
                  · intro w'
                    go_simp
                    with_reducible rfl
                  rotate_left
                  · simp only [Act.put, List.setIfInBounds_toArray, List.set_cons_zero, List.set_cons_succ, i64_w, i32_w]
                    rfl
                  refine pure_ (i := 9) (N := some 0) (v := ?_) (a' := ?_) #[true, true, true, true, true, true, true, true, true, true] rfl rfl (any_of HT_.out (by kernel_rfl)) (fun _ _ _ h => h) (Or.inl ⟨by rfl, ?_⟩) ?_ ?_
                  rotate_left
                  · intro w'
                    go_simp
                    with_reducible rfl
                  rotate_left
                  · simp only [Act.put, List.setIfInBounds_toArray, List.set_cons_zero, List.set_cons_succ, i64_w, i32_w]
                    rfl
                  refine done_ (done_of HT_.out (by kernel_rfl)) ?_
                  obtain ⟨Ao42, co42, eo42⟩ := Kd.R_slice HO333.out
                  subst eo42
                  try go_wp2
                  go_ret2
                  exact ⟨_, by first | rfl | (simp [errW_none, errW_some] <;> rfl) | (simp only [← hji9, ← hji35]; first | rfl | (simp [errW_none, errW_some] <;> rfl)) | (simp [*, errW_none, errW_some] <;> rfl), nz_, bs1_ GE329.out⟩
                 ·
                  rw [if_neg c38] at H
                  have c38b0 : decide (256 < (y331.length : Int)) = false := decide_eq_false c38
                  have c38b1 : decide (256 < y331.length) = false := decide_eq_false (by omega)
                  clear c38
                  have H' := Aside0.mk H
                  clear H
                  have hcz43_0 : wr.cell? ⟨gb329, 0, none⟩ = some (.string x330000_3) := (blk_cell BK329.out 0).trans rfl
                  have hcz43_1 : wr.cell? ⟨gb329, 1, none⟩ = some (.int .i64 x330001_3) := (blk_cell BK329.out 1).trans rfl
                  have hcz43_2 : wr.cell? ⟨gb329, 2, none⟩ = some (.string (x0_1.extract ((ji9) : Int).toNat ((ji35) : Int).toNat)) := (blk_cell BK329.out 2).trans rfl
                  have hfz43_0 := blk_frozen BK329.out 0
                  have hfz43_1 := blk_frozen BK329.out 1
                  have hfz43_2 := blk_frozen BK329.out 2
                  try go_wp2
                  have n0_ := Aside0.mk (Kd.R_drew HO_4.out)
                  have n1_ := Aside0.mk (blk_drew BK329.out)
                  have n2_ := Aside0.mk (below_drew1 HB.out)
                  clear HO_4
                  clear BK329
                  clear HB
                  have HO_4 := n0_
                  have BK329 := n1_
                  have HB := n2_
                  clear n0_ n1_ n2_
                  refine start_ (n := 10) (S := fun w' => w'.cell? ⟨gb329, 0, none⟩ = some (.string x330000_3) ∧ w'.cell? ⟨gb329, 1, none⟩ = some (.int .i64 x330001_3) ∧ w'.cell? ⟨gb329, 2, none⟩ = some (.string (x0_1.extract ((ji9) : Int).toNat ((ji35) : Int).toNat))) (ds := []) #[false, false, false, false, false, false, false, false, false, false] (by kernel_rfl) rfl rfl ⟨(blk_cell BK329.out 0).trans rfl, (blk_cell BK329.out 1).trans rfl, (blk_cell BK329.out 2).trans rfl⟩ (fun hHeld => ?_); refine with_tabW r6_Get.tab15 r6_Get.bits15 (fun HT_ HW_ => ?_)
                  generalize wr.drew = w44 at HO_4 BK329 HB hHeld ⊢
                  refine pure_ (i := 0) (N := some 63) (v := ?_) (a' := ?_) #[true, false, false, false, false, false, false, false, false, false] rfl rfl (any_of HT_.out (by kernel_rfl)) (fun _ _ _ h => h) (Or.inl ⟨by rfl, ?_⟩) ?_ ?_
                  rotate_left
                  · intro w'
                    go_simp
                    with_reducible rfl
                  rotate_left
                  · simp only [Act.put, List.setIfInBounds_toArray, List.set_cons_zero, List.set_cons_succ, i64_w, i32_w]
                    rfl
                  refine pure_ (i := 4) (N := some 67) (v := ?_) (a' := ?_) #[true, false, false, false, true, false, false, false, false, false] rfl rfl (any_of HT_.out (by kernel_rfl)) (fun _ _ _ h => h) (Or.inl ⟨by rfl, ?_⟩) ?_ ?_
                  rotate_left
                  · intro w'
                    go_simp
                    with_reducible rfl
                  rotate_left
                  · simp only [Act.put, List.setIfInBounds_toArray, List.set_cons_zero, List.set_cons_succ, i64_w, i32_w]
                    rfl
                  refine pure_ (i := 5) (N := some 68) (v := ?_) (a' := ?_) #[true, false, false, false, true, true, false, false, false, false] rfl rfl (any_of HT_.out (by kernel_rfl)) (fun _ _ _ h => h) (Or.inl ⟨by rfl, ?_⟩) ?_ ?_
                  rotate_left
                  · intro w'
                    go_simp
                    with_reducible rfl
                  rotate_left
                  · simp only [Act.put, List.setIfInBounds_toArray, List.set_cons_zero, List.set_cons_succ, i64_w, i32_w]
                    rfl
                  refine pure_ (i := 6) (N := some 69) (v := ?_) (a' := ?_) #[true, false, false, false, true, true, true, false, false, false] rfl rfl (any_of HT_.out (by kernel_rfl)) (fun _ _ _ h => h) (Or.inl ⟨by rfl, ?_⟩) ?_ ?_
                  rotate_left
                  · intro w'
                    go_simp
                    with_reducible rfl
                  rotate_left
                  · simp only [Act.put, List.setIfInBounds_toArray, List.set_cons_zero, List.set_cons_succ, i64_w, i32_w]
                    rfl
                  refine pure_ (i := 7) (N := some 70) (v := ?_) (a' := ?_) #[true, false, false, false, true, true, true, true, false, false] rfl rfl (any_of HT_.out (by kernel_rfl)) (fun _ _ _ h => h) (Or.inl ⟨by rfl, ?_⟩) ?_ ?_
                  rotate_left
                  · intro w'
                    go_simp
                    with_reducible rfl
                  rotate_left
                  · simp only [Act.put, List.setIfInBounds_toArray, List.set_cons_zero, List.set_cons_succ, i64_w, i32_w]
                    rfl
                  refine take_ (i := 1) (N := some 64) (v := ?_) (a' := ?_) #[true, true, false, false, true, true, true, true, false, false] rfl rfl (take_ofW HT_.out HW_.out (by kernel_rfl)) (fun _ _ _ h => h) (Or.inl ⟨by rfl, ?_⟩) hHeld ?_ ?_
                  rotate_left
                  · rintro w' ⟨s0, s1, s2⟩
                    go_simp
                    with_reducible rfl
                  rotate_left
                  · simp only [Act.put, List.setIfInBounds_toArray, List.set_cons_zero, List.set_cons_succ, i64_w, i32_w]
                    rfl
                  refine one_ (i := 2) (N := some 65) #[true, true, true, false, true, true, true, true, false, false] rfl rfl (one_of HT_.out (by kernel_rfl)) (by decide) (fun K hK => ?_)
                  refine value_ (w1 := ?_) (v := ?_) (by rfl) rfl ?_ ?_
                  rotate_left 2
                  · go_simp
                    constructor
                    · rfl
                    · rfl
                  refine hK.out _ _ ⟨(blk_cell (blk_alloc BK329.out _) 0).trans rfl, (blk_cell (blk_alloc BK329.out _) 1).trans rfl, (blk_cell (blk_alloc BK329.out _) 2).trans rfl⟩ (fun hHeld => ?_)
                  clear hK K
                  refine norm_ (a' := ?_) ?_ ?_
                  rotate_left
                  · show Act.put _ (some 65) _ = _
                    simp only [Act.put, List.setIfInBounds_toArray, List.set_cons_zero, List.set_cons_succ, i64_w, i32_w]
                    rfl
                  refine one_ (i := 3) (N := some 66) #[true, true, true, true, true, true, true, true, false, false] rfl rfl (one_of HT_.out (by kernel_rfl)) (by decide) (fun K hK => ?_)
                  refine Kd.R_append_step k86 (w0 := w) w.heap.size (by rfl) (.tmp 63) (.tmp 65) 83 86 (.agg #[(.string ⟨#[]⟩), (.int .i64 0), (.string ⟨#[]⟩)]) 40 rfl Tryd.underlying83 info86 rfl (by decide) (by omega) u4 x4_1 (⟨x330000_3, x330001_3, (x0_1.extract ((ji9) : Int).toNat ((ji35) : Int).toNat)⟩ : S86) [.string x330000_3, .int .i64 x330001_3, .string (x0_1.extract ((ji9) : Int).toNat ((ji35) : Int).toNat)] (fun k_ => k_ ≠ gb329) (fun _ => False) rfl rfl ?aP (fun _ hk => hk.elim) ?aF ?aO ?aB ?aS ?aL ?_
                  (case aP => exact k86_mkM _ _ _ (⟨x330000_3, x330001_3, (x0_1.extract ((ji9) : Int).toNat ((ji35) : Int).toNat)⟩ : S86))
                  (case aB => exact (bs1_ GE329.out))
                  (case aF => exact (fun k_ hk => Kd.freshB (g := gb329) (o := .cells #[.string x330000_3, .int .i64 x330001_3, .string (x0_1.extract ((ji9) : Int).toNat ((ji35) : Int).toNat)] 86 (0, 0)) (kz_ BK329.out) k_ hk))
                  (case aO => exact (rz_ HO_4.out))
                  (case aS => exact (below_size (bs1_ GE329.out)))
                  (case aL => have := LMc34.out; omega)
                  intro v332 w45 ho hb hg hat
                  rw [← Ny331.out] at ho
                  have n0_ := Aside0.mk (blk_grown (g := gb329) (o := .cells #[.string x330000_3, .int .i64 x330001_3, .string (x0_1.extract ((ji9) : Int).toNat ((ji35) : Int).toNat)] 86 (0, 0)) (kz_ BK329.out) hg (Kd.R_away HO_4.out (fun _ hk => hk)))
                  have n1_ := Aside0.mk (hb)
                  have n2_ := Aside0.mk (ho)
                  clear BK329
                  clear HB
                  clear HO_4
                  have BK329 := n0_
                  have HB := n1_
                  have HO333 := n2_
                  clear n0_ n1_ n2_
                  clear ho hb hg hat
                  refine hK.out _ _ ⟨(blk_cell BK329.out 0).trans rfl, (blk_cell BK329.out 1).trans rfl, (blk_cell BK329.out 2).trans rfl⟩ (fun hHeld => ?_)
                  clear hK K
                  refine norm_ (a' := ?_) ?_ ?_
                  rotate_left
                  · show Act.put _ (some 66) _ = _
                    simp only [Act.put, List.setIfInBounds_toArray, List.set_cons_zero, List.set_cons_succ, i64_w, i32_w]
                    rfl
                  refine pure_ (i := 8) (N := some 4) (v := ?_) (a' := ?_) #[true, true, true, true, true, true, true, true, true, false] rfl rfl (any_of HT_.out (by kernel_rfl)) (fun _ _ _ h => h) (Or.inl ⟨by rfl, ?_⟩) ?_ ?_
                  rotate_left
                  · intro w'
                    go_simp
                    with_reducible rfl
                  rotate_left
                  · simp only [Act.put, List.setIfInBounds_toArray, List.set_cons_zero, List.set_cons_succ, i64_w, i32_w]
                    rfl
                  refine pure_ (i := 9) (N := some 0) (v := ?_) (a' := ?_) #[true, true, true, true, true, true, true, true, true, true] rfl rfl (any_of HT_.out (by kernel_rfl)) (fun _ _ _ h => h) (Or.inl ⟨by rfl, ?_⟩) ?_ ?_
                  rotate_left
                  · intro w'
                    go_simp
                    with_reducible rfl
                  rotate_left
                  · simp only [Act.put, List.setIfInBounds_toArray, List.set_cons_zero, List.set_cons_succ, i64_w, i32_w]
                    rfl
                  refine done_ (done_of HT_.out (by kernel_rfl)) ?_
                  obtain ⟨Ao46, co46, eo46⟩ := Kd.R_slice HO333.out
                  subst eo46
                  try go_wp2
                  go_roundg k3
                  case measure => have := HK1.out; have := HJ5.out; have := HK3.out; omega
                  case rel => exact ⟨(x0_1.extract ((ji35) : Int).toNat x0_1.size), (y331), (by first | rfl | (simp; done) | (simp only [← hji35] <;> (first | rfl | simp)) | (simp [*]; done)), H', ⟨by have := HK1.out; have := HJ5.out; have := HK3.out; omega⟩, ⟨rz_ (Kd.R_mono HO333.out (fun _ hk => trivial))⟩, ⟨bs1_ GE329.out⟩⟩
                · rw [if_neg c37] at H
                  exact absurd H (by simp)
               · rw [if_neg c36] at H
                 exact absurd H (by simp)
              · rw [if_neg c34] at H
                exact absurd H (by simp)
         · rw [if_neg c12] at H
           exact absurd H (by simp)
        · rw [if_neg c11] at H
          exact absurd H (by simp)
       · rw [if_neg c10] at H
         exact absurd H (by simp)
   ·
    rw [if_neg c4] at H
    have c4b0 : decide (0 < (x0_1.size : Int)) = false := decide_eq_false c4
    have c4b1 : decide (0 < x0_1.size) = false := decide_eq_false (by omega)
    clear c4
    replace H := Option.bind_eq_some_iff.mp H
    obtain ⟨t327, A470, H⟩ := H
    try dsimp only at H
    have A47 := Aside0.mk A470
    clear A470
    by_cases c48 : t327 = 0
    · rw [if_pos c48] at H
      have c48b0 : (t327 == 0) = true := beq_iff_eq.mpr c48
      have c48b1 : (t327 != 0) = false := bne_eq_false_iff_eq.mpr c48
      clear c48
      simp only [Option.some.injEq, Prod.mk.injEq] at H
      obtain ⟨rfl, rfl⟩ := H
      obtain ⟨Ao49, co49, eo49⟩ := Kd.R_slice HO_4.out
      subst eo49
      go_wp2_with (first | ((with_reducible refine gate_callee (f := 68) rfl ?_); refine goesM_ (some 75) Tryd.func68 #[.slice Ao49 x4_1.length co49] ?_; (with_reducible refine (r6_Check.calls k1 _ _ x4_1 t327 _ ?side1 ?side2 A47.out).mono ?_); (case side1 => repeat (first | exact (Kd.R_reads' HO_4.out).2.2 | (with_reducible refine Kd.C_alloc ?_ _) | (with_reducible refine Kd.C_drewN ?_ _) | (with_reducible refine Kd.C_drew ?_))); (case side2 => exact (Kd.R_reads' HO_4.out).2.1); rintro e w' ⟨rfl, ⟨nd, rfl⟩⟩; refine ⟨_, rfl, ?_⟩))
      go_ret2
      exact ⟨_, xz_, rz_ HO_4.out, bz_⟩
    · rw [if_neg c48] at H
      have c48b0 : (t327 == 0) = false := beq_eq_false_iff_ne.mpr c48
      have c48b1 : (t327 != 0) = true := bne_iff_ne.mpr c48
      simp only [Option.some.injEq, Prod.mk.injEq] at H
      obtain ⟨rfl, rfl⟩ := H
      obtain ⟨Ao50, co50, eo50⟩ := Kd.R_slice HO_4.out
      subst eo50
      go_wp2_with (first | ((with_reducible refine gate_callee (f := 68) rfl ?_); refine goesM_ (some 75) Tryd.func68 #[.slice Ao50 x4_1.length co50] ?_; (with_reducible refine (r6_Check.calls k1 _ _ x4_1 t327 _ ?side1 ?side2 A47.out).mono ?_); (case side1 => repeat (first | exact (Kd.R_reads' HO_4.out).2.2 | (with_reducible refine Kd.C_alloc ?_ _) | (with_reducible refine Kd.C_drewN ?_ _) | (with_reducible refine Kd.C_drew ?_))); (case side2 => exact (Kd.R_reads' HO_4.out).2.1); rintro e w' ⟨rfl, ⟨nd, rfl⟩⟩; refine ⟨_, rfl, ?_⟩))
      go_ret2
      exact ⟨_, xz_, nz_, bz_⟩

end Go.Proofs.YtnapcfpecpgdbaaDoor.M
