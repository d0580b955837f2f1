/- The program's functions as plain functions, and that each call comes to what these tell; written by a program of this session, some contracts by hand. Conditions: none. -/
import Derived.Test.YthdmioocgofaeaaDoorMx0
import Derived.Test.YthdmioocgofaeaaDoorMx3
namespace Go.Proofs.YthdmioocgofaeaaDoor.M
open Go.RowKit Go.Proofs.YthdmioocgofaeaaDoorW.PrintWords Go.Proofs.YthdmioocgofaeaaDoorW.PrintLast Go.Proofs.YthdmioocgofaeaaDoorW.PrintMore
attribute [local go_sem] max2_int min2_int max_two min_two max_three min_three max_four min_four   -- for this text's walks alone
set_option linter.unusedVariables false
set_option linter.unusedSimpArgs false

/-! ### merge_chunk: function 10 (given by hand) -/
def merge_chunk.f (k : Nat) (l0 : List ByteArray) (l1 : List ByteArray) (l2 : List ByteArray) : Option (Int × List ByteArray × List ByteArray × List ByteArray) := (slices_Clone_string_string.f l0).bind fun t132 => ((slices_Clone_string_string.f l1).bind fun t135 => ((slices_Clone_string_string.f l2).bind fun t138 => ((slices_Equal_string_string.f k l1 l2).bind fun t142 => (if t142 = true then (some (4, t132, t135, t138)) else ((slices_Equal_string_string.f k l0 l2).bind fun t143 => (if t143 = true then (some (2, t132, t135, t138)) else ((slices_Equal_string_string.f k l0 l1).bind fun t144 => (if t144 = true then (some (3, t132, t135, t138)) else (some (5, t132, t135, t138))))))))))
theorem merge_chunk.mono : ∀ a0 a1 a2 k, LeO (merge_chunk.f k a0 a1 a2) (merge_chunk.f (k + 1) a0 a1 a2) := by
 intro a0 a1 a2 k
 unfold merge_chunk.f
 repeat' first
  | (with_reducible exact LeO.refl _)
  | (with_reducible exact slices_Equal_string_string.mono _ _ _)
  | (with_reducible refine LeO.bind ?_ (fun _ => ?_))
  | (with_reducible refine LeO.ite ?_ ?_)
theorem merge_chunk.fin {w wA w1 w2 w3 V : World} {v1 v2 v3 : Value} {t0 t1 t2 : List ByteArray} (hA : w.heap.size < wA.heap.size)
 (R1 : Kd.R Kd.string 9 w1 wA.heap.size (fun _ => True) v1 t0) (R2 : Kd.R Kd.string 9 w2 w1.heap.size (fun _ => True) v2 t1) (R3 : Kd.R Kd.string 9 w3 w2.heap.size (fun _ => True) v3 t2)
 (b1 : wA.heap.size ≤ w1.heap.size) (b2 : Below w1.heap.size w1 w2) (b3 : Below w2.heap.size w2 w3) (hV : ∀ k, k ≠ w.heap.size → k < w3.heap.size → V.heap[k]? = w3.heap[k]?) :
 Kd.R Kd.string 9 V w.heap.size (fun k_ => some k_ ≠ v2.ownBlock ∧ some k_ ≠ v3.ownBlock) v1 t0 ∧ Kd.R Kd.string 9 V w.heap.size (fun k_ => some k_ ≠ v1.ownBlock ∧ some k_ ≠ v3.ownBlock) v2 t1 ∧ Kd.R Kd.string 9 V w.heap.size (fun k_ => some k_ ≠ v1.ownBlock ∧ some k_ ≠ v2.ownBlock) v3 t2 := by
 obtain ⟨i1, o1⟩ := Kd.R_own R1
 obtain ⟨i2, o2⟩ := Kd.R_own R2
 obtain ⟨i3, o3⟩ := Kd.R_own R3
 have s2 := b2.size
 have s3 := b3.size
 refine ⟨?_, ?_, ?_⟩
 · refine Kd.R_mono (Kd.R_step (Kd.R_lower (Kd.R_below (Kd.R_below (Kd.R_bound R1) b2) b3) (by omega)) (fun k hk hlt => hV k (by have := hk.2.1; omega) hlt)) (fun k hk => ⟨fun e => ?_, fun e => ?_⟩)
   · have := own_base o2 k e.symm
     have := hk.2.2.1
     omega
   · have := own_base o3 k e.symm
     have := hk.2.2.1
     omega
 · refine Kd.R_mono (Kd.R_step (Kd.R_lower (Kd.R_below (Kd.R_bound R2) b3) (by omega)) (fun k hk hlt => hV k (by have := hk.2.1; omega) hlt)) (fun k hk => ⟨fun e => ?_, fun e => ?_⟩)
   · have := own_lt o1 k e.symm
     have := hk.2.1
     omega
   · have := own_base o3 k e.symm
     have := hk.2.2.1
     omega
 · refine Kd.R_mono (Kd.R_step (Kd.R_lower (Kd.R_bound R3) (by omega)) (fun k hk hlt => hV k (by have := hk.2.1; omega) hlt)) (fun k hk => ⟨fun e => ?_, fun e => ?_⟩)
   · have := own_lt o1 k e.symm
     have := hk.2.1
     omega
   · have := own_lt o2 k e.symm
     have := hk.2.1
     omega
theorem merge_chunk.set4 (V : World) (g k : Nat) (h : k ≠ g) (a b c d : Value) : ((((V.setCell ⟨g, 0, none⟩ a).setCell ⟨g, 1, none⟩ b).setCell ⟨g, 2, none⟩ c).setCell ⟨g, 3, none⟩ d).heap[k]? = V.heap[k]? :=
 (Below.heap_setCell _ ⟨g, 3, none⟩ d k h).trans ((Below.heap_setCell _ ⟨g, 2, none⟩ c k h).trans ((Below.heap_setCell _ ⟨g, 1, none⟩ b k h).trans (Below.heap_setCell V ⟨g, 0, none⟩ a k h)))
set_option maxHeartbeats 4000000 in
set_option maxRecDepth 100000 in
theorem merge_chunk.calls (k : Nat) (A0 : Option Addr) (c0 : Nat) (l0 : List ByteArray) (A1 : Option Addr) (c1 : Nat) (l1 : List ByteArray) (A2 : Option Addr) (c2 : Nat) (l2 : List ByteArray) (r1 : Int) (r2 : List ByteArray) (r3 : List ByteArray) (r4 : List ByteArray) (w : World) (hr0 : Kd.C Kd.string w A0 l0.length l0) (hc0 : l0.length ≤ c0) (hr1 : Kd.C Kd.string w A1 l1.length l1) (hc1 : l1.length ≤ c1) (hr2 : Kd.C Kd.string w A2 l2.length l2) (hc2 : l2.length ≤ c2) (h : merge_chunk.f k l0 l1 l2 = some (r1, r2, r3, r4)) :
 Calls Tryd.prog 10 #[.slice A0 l0.length c0, .slice A1 l1.length c1, .slice A2 l2.length c2] w fun e w' => ∃ v1_ v2_ v3_ : Value, e = .returned (.agg #[.int .i64 r1, v1_, v2_, v3_]) ∧ Kd.R Kd.string 9 w' w.heap.size (fun k_ => some k_ ≠ (v2_ : Value).ownBlock ∧ some k_ ≠ (v3_ : Value).ownBlock) v1_ r2 ∧ Kd.R Kd.string 9 w' w.heap.size (fun k_ => some k_ ≠ (v1_ : Value).ownBlock ∧ some k_ ≠ (v3_ : Value).ownBlock) v2_ r3 ∧ Kd.R Kd.string 9 w' w.heap.size (fun k_ => some k_ ≠ (v1_ : Value).ownBlock ∧ some k_ ≠ (v2_ : Value).ownBlock) v3_ r4 ∧ Below w.heap.size w w' := by
 have hu := Tryd.underlying30
 have HR0 := Aside0.mk hr0
 have HC0 := Aside0.mk hc0
 have HR1 := Aside0.mk hr1
 have HC1 := Aside0.mk hc1
 have HR2 := Aside0.mk hr2
 have HC2 := Aside0.mk hc2
 obtain ⟨t0, h0, h⟩ := Option.bind_eq_some_iff.mp h
 obtain ⟨t1, h1, h⟩ := Option.bind_eq_some_iff.mp h
 obtain ⟨t2, h2, h⟩ := Option.bind_eq_some_iff.mp h
 obtain ⟨b0, h3, h⟩ := Option.bind_eq_some_iff.mp h
 have T0 := Aside0.mk h0
 have T1 := Aside0.mk h1
 have T2 := Aside0.mk h2
 have E0 := Aside0.mk h3
 have HW := Aside0.mk (below_alloc (Below.refl w.heap.size w) (.cells #[.int .i64 0, .slice none 0 0, .slice none 0 0, .slice none 0 0] 30))
 have G0 := Aside0.mk (show (w.alloc (.cells #[.int .i64 0, .slice none 0 0, .slice none 0 0, .slice none 0 0] 30)).heap[w.heap.size]? = some (.cells #[.int .i64 0, .slice none 0 0, .slice none 0 0, .slice none 0 0] 30 (0, 0)) from heap_alloc_new w _)
 have G1 := Aside0.mk (blk_lt G0.out)
 clear hr0 hc0 hr1 hc1 hr2 hc2 h0 h1 h2 h3
 cases b0 with
 | true =>
  rw [if_pos rfl] at h
  have OUT := Aside0.mk (Option.some.inj h)
  clear h
  go_enter Tryd.func10, Tryd.ntmps10
  go_wp2_with fail
  refine (slices_Clone_string_string.calls A0 c0 l0 t0 _ (Kd.C_below HR0.out HW.out) HC0.out T0.out).mono ?_
  rintro e w1 ⟨v1, rfl, hR1, hb1⟩
  obtain ⟨B1, q1, e1⟩ := Kd.R_slice hR1
  subst e1
  have RV1 := Aside0.mk hR1
  have HC1' := Aside0.mk hb1
  have HB1 := Aside0.mk (HW.out.trans (hb1.mono HW.out.size))
  clear hR1 hb1
  go_wp2_with fail
  refine (slices_Clone_string_string.calls A1 c1 l1 t1 _ (Kd.C_below HR1.out HB1.out) HC1.out T1.out).mono ?_
  rintro e w2 ⟨v2, rfl, hR2, hb2⟩
  obtain ⟨B2, q2, e2⟩ := Kd.R_slice hR2
  subst e2
  have RV2 := Aside0.mk hR2
  have HB2 := Aside0.mk hb2
  clear hR2 hb2
  go_wp2_with fail
  refine (slices_Clone_string_string.calls A2 c2 l2 t2 _ (Kd.C_below HR2.out (HB1.out.trans (HB2.out.mono HB1.out.size))) HC2.out T2.out).mono ?_
  rintro e w3 ⟨v3, rfl, hR3, hb3⟩
  obtain ⟨B3, q3, e3⟩ := Kd.R_slice hR3
  subst e3
  have RV3 := Aside0.mk hR3
  have HB3 := Aside0.mk hb3
  clear hR3 hb3
  have GB := Aside0.mk ((HB3.out.block _ (Nat.lt_of_lt_of_le (Nat.lt_of_lt_of_le G1.out HC1'.out.size) HB2.out.size)).trans ((HB2.out.block _ (Nat.lt_of_lt_of_le G1.out HC1'.out.size)).trans ((HC1'.out.block _ G1.out).trans G0.out)))
  have HBB := Aside0.mk ((HB1.out.trans (HB2.out.mono HB1.out.size)).trans (HB3.out.mono (Nat.le_trans HB1.out.size HB2.out.size)))
  go_wp2_with fail
  refine (slices_Equal_string_string.calls k A1 c1 l1 A2 c2 l2 true _ (by repeat (first | exact Kd.C_below HR1.out HBB.out | (with_reducible refine Kd.C_alloc ?_ _) | (with_reducible refine Kd.C_drewN ?_ _))) HC1.out (by repeat (first | exact Kd.C_below HR2.out HBB.out | (with_reducible refine Kd.C_alloc ?_ _) | (with_reducible refine Kd.C_drewN ?_ _))) HC2.out E0.out).mono ?_
  rintro e w4 ⟨rfl, ⟨nd1, rfl⟩⟩
  have hG0 : w3.heap[w.heap.size]? = some (.cells #[.int .i64 0, .slice none 0 0, .slice none 0 0, .slice none 0 0] 30 (0, 0)) := GB.out
  have hGo : ∀ (o : Obj) (n0 : Nat) (u : Value), (((w3.alloc o).drewN n0).setCell ⟨w3.heap.size, 0, none⟩ u).heap[w.heap.size]? = some (.cells #[.int .i64 0, .slice none 0 0, .slice none 0 0, .slice none 0 0] 30 (0, 0)) := fun o n0 u => (Below.heap_setCell ((w3.alloc o).drewN n0) ⟨w3.heap.size, 0, none⟩ u w.heap.size (Nat.ne_of_lt (blk_lt hG0))).trans (((below_alloc (Below.refl w3.heap.size w3) o).block _ (blk_lt hG0)).trans hG0)
  have hx0 : ∀ (o : Obj) (n0 : Nat) (u : Value), (((w3.alloc o).drewN n0).setCell ⟨w3.heap.size, 0, none⟩ u).cell? ⟨w.heap.size, 0, none⟩ = some (.int .i64 0) := fun o n0 u => (blk_cell (hGo o n0 u) 0).trans rfl
  have hy0 : ∀ (o : Obj) (n0 : Nat) (u : Value), (((w3.alloc o).drewN n0).setCell ⟨w3.heap.size, 0, none⟩ u).frozen? ⟨w.heap.size, 0, none⟩ = false := fun o n0 u => blk_frozen (hGo o n0 u) 0
  have hx1 : ∀ (o : Obj) (n0 : Nat) (u : Value), (((w3.alloc o).drewN n0).setCell ⟨w3.heap.size, 0, none⟩ u).cell? ⟨w.heap.size, 1, none⟩ = some (.slice none 0 0) := fun o n0 u => (blk_cell (hGo o n0 u) 1).trans rfl
  have hy1 : ∀ (o : Obj) (n0 : Nat) (u : Value), (((w3.alloc o).drewN n0).setCell ⟨w3.heap.size, 0, none⟩ u).frozen? ⟨w.heap.size, 1, none⟩ = false := fun o n0 u => blk_frozen (hGo o n0 u) 1
  have hx2 : ∀ (o : Obj) (n0 : Nat) (u : Value), (((w3.alloc o).drewN n0).setCell ⟨w3.heap.size, 0, none⟩ u).cell? ⟨w.heap.size, 2, none⟩ = some (.slice none 0 0) := fun o n0 u => (blk_cell (hGo o n0 u) 2).trans rfl
  have hy2 : ∀ (o : Obj) (n0 : Nat) (u : Value), (((w3.alloc o).drewN n0).setCell ⟨w3.heap.size, 0, none⟩ u).frozen? ⟨w.heap.size, 2, none⟩ = false := fun o n0 u => blk_frozen (hGo o n0 u) 2
  have hx3 : ∀ (o : Obj) (n0 : Nat) (u : Value), (((w3.alloc o).drewN n0).setCell ⟨w3.heap.size, 0, none⟩ u).cell? ⟨w.heap.size, 3, none⟩ = some (.slice none 0 0) := fun o n0 u => (blk_cell (hGo o n0 u) 3).trans rfl
  have hy3 : ∀ (o : Obj) (n0 : Nat) (u : Value), (((w3.alloc o).drewN n0).setCell ⟨w3.heap.size, 0, none⟩ u).frozen? ⟨w.heap.size, 3, none⟩ = false := fun o n0 u => blk_frozen (hGo o n0 u) 3
  go_wp2_with fail
  obtain ⟨V0, hV0⟩ : ∃ V_, V_ = (((w3.alloc (.cells #[.int .i64 5, .slice B1 t0.length q1, .slice B2 t1.length q2, .slice B3 t2.length q3] 30)).drewN nd1).setCell ⟨w3.heap.size, 0, none⟩ (.int .i64 4)) := ⟨_, rfl⟩
  have hVk : ∀ k_, k_ < w3.heap.size → V0.heap[k_]? = w3.heap[k_]? := fun k_ hk_ => by
   rw [hV0]
   exact (Below.heap_setCell _ ⟨w3.heap.size, 0, none⟩ _ k_ (Nat.ne_of_lt hk_)).trans ((below_alloc (Below.refl w3.heap.size w3) _).block k_ hk_)
  have hVz : V0.heap[w.heap.size]? = some (.cells #[.int .i64 0, .slice none 0 0, .slice none 0 0, .slice none 0 0] 30 (0, 0)) := (hVk _ (blk_lt hG0)).trans hG0
  rw [← hV0]
  refine bodyPost_ret (results_cell_row rfl _ _ w.heap.size 30 #[.int .i64 4, .slice B1 t0.length q1, .slice B2 t1.length q2, .slice B3 t2.length q3] (0, 0) _ rfl (by refine blk_put (cs := #[.int .i64 4, .slice B1 t0.length q1, .slice B2 t1.length q2, .slice none 0 0]) ?_ 3 _ rfl; refine blk_put (cs := #[.int .i64 4, .slice B1 t0.length q1, .slice none 0 0, .slice none 0 0]) ?_ 2 _ rfl; refine blk_put (cs := #[.int .i64 4, .slice none 0 0, .slice none 0 0, .slice none 0 0]) ?_ 1 _ rfl; refine blk_put (cs := #[.int .i64 0, .slice none 0 0, .slice none 0 0, .slice none 0 0]) ?_ 0 _ rfl; exact hVz) Tryd.underlying30 rfl (by kernel_rfl)) rfl ?_
  have hout := OUT.out
  rw [Prod.mk.injEq, Prod.mk.injEq, Prod.mk.injEq] at hout
  obtain ⟨z1, z2, z3, z4⟩ := hout
  rw [← z1, ← z2, ← z3, ← z4]
  have hBV : Below w.heap.size w V0 := by
   rw [hV0]
   exact below_set (pw_below_drewN (below_alloc HBB.out _) _) HBB.out.size
  obtain ⟨f1, f2, f3⟩ := merge_chunk.fin (V := ((((V0.setCell ⟨w.heap.size, 0, none⟩ (.int .i64 4)).setCell ⟨w.heap.size, 1, none⟩ (.slice B1 t0.length q1)).setCell ⟨w.heap.size, 2, none⟩ (.slice B2 t1.length q2)).setCell ⟨w.heap.size, 3, none⟩ (.slice B3 t2.length q3))) G1.out RV1.out RV2.out RV3.out HC1'.out.size HB2.out HB3.out (fun k_ hne hlt => (merge_chunk.set4 V0 w.heap.size k_ hne _ _ _ _).trans (hVk k_ hlt))
  exact ⟨_, _, _, rfl, f1, f2, f3, below_set (below_set (below_set (below_set hBV (Nat.le_refl _)) (Nat.le_refl _)) (Nat.le_refl _)) (Nat.le_refl _)⟩
 | false =>
  rw [if_neg (by decide)] at h
  obtain ⟨b1, h3, h⟩ := Option.bind_eq_some_iff.mp h
  have E1 := Aside0.mk h3
  clear h3
  cases b1 with
  | true =>
   rw [if_pos rfl] at h
   have OUT := Aside0.mk (Option.some.inj h)
   clear h
   go_enter Tryd.func10, Tryd.ntmps10
   go_wp2_with fail
   refine (slices_Clone_string_string.calls A0 c0 l0 t0 _ (Kd.C_below HR0.out HW.out) HC0.out T0.out).mono ?_
   rintro e w1 ⟨v1, rfl, hR1, hb1⟩
   obtain ⟨B1, q1, e1⟩ := Kd.R_slice hR1
   subst e1
   have RV1 := Aside0.mk hR1
   have HC1' := Aside0.mk hb1
   have HB1 := Aside0.mk (HW.out.trans (hb1.mono HW.out.size))
   clear hR1 hb1
   go_wp2_with fail
   refine (slices_Clone_string_string.calls A1 c1 l1 t1 _ (Kd.C_below HR1.out HB1.out) HC1.out T1.out).mono ?_
   rintro e w2 ⟨v2, rfl, hR2, hb2⟩
   obtain ⟨B2, q2, e2⟩ := Kd.R_slice hR2
   subst e2
   have RV2 := Aside0.mk hR2
   have HB2 := Aside0.mk hb2
   clear hR2 hb2
   go_wp2_with fail
   refine (slices_Clone_string_string.calls A2 c2 l2 t2 _ (Kd.C_below HR2.out (HB1.out.trans (HB2.out.mono HB1.out.size))) HC2.out T2.out).mono ?_
   rintro e w3 ⟨v3, rfl, hR3, hb3⟩
   obtain ⟨B3, q3, e3⟩ := Kd.R_slice hR3
   subst e3
   have RV3 := Aside0.mk hR3
   have HB3 := Aside0.mk hb3
   clear hR3 hb3
   have GB := Aside0.mk ((HB3.out.block _ (Nat.lt_of_lt_of_le (Nat.lt_of_lt_of_le G1.out HC1'.out.size) HB2.out.size)).trans ((HB2.out.block _ (Nat.lt_of_lt_of_le G1.out HC1'.out.size)).trans ((HC1'.out.block _ G1.out).trans G0.out)))
   have HBB := Aside0.mk ((HB1.out.trans (HB2.out.mono HB1.out.size)).trans (HB3.out.mono (Nat.le_trans HB1.out.size HB2.out.size)))
   go_wp2_with fail
   refine (slices_Equal_string_string.calls k A1 c1 l1 A2 c2 l2 false _ (by repeat (first | exact Kd.C_below HR1.out HBB.out | (with_reducible refine Kd.C_alloc ?_ _) | (with_reducible refine Kd.C_drewN ?_ _))) HC1.out (by repeat (first | exact Kd.C_below HR2.out HBB.out | (with_reducible refine Kd.C_alloc ?_ _) | (with_reducible refine Kd.C_drewN ?_ _))) HC2.out E0.out).mono ?_
   rintro e w4 ⟨rfl, ⟨nd1, rfl⟩⟩
   go_wp2_with fail
   refine (slices_Equal_string_string.calls k A0 c0 l0 A2 c2 l2 true _ (by repeat (first | exact Kd.C_below HR0.out HBB.out | (with_reducible refine Kd.C_alloc ?_ _) | (with_reducible refine Kd.C_drewN ?_ _))) HC0.out (by repeat (first | exact Kd.C_below HR2.out HBB.out | (with_reducible refine Kd.C_alloc ?_ _) | (with_reducible refine Kd.C_drewN ?_ _))) HC2.out E1.out).mono ?_
   rintro e w4 ⟨rfl, ⟨nd2, rfl⟩⟩
   have hG0 : w3.heap[w.heap.size]? = some (.cells #[.int .i64 0, .slice none 0 0, .slice none 0 0, .slice none 0 0] 30 (0, 0)) := GB.out
   have hGo : ∀ (o : Obj) (n0 : Nat) (u : Value), (((w3.alloc o).drewN n0).setCell ⟨w3.heap.size, 0, none⟩ u).heap[w.heap.size]? = some (.cells #[.int .i64 0, .slice none 0 0, .slice none 0 0, .slice none 0 0] 30 (0, 0)) := fun o n0 u => (Below.heap_setCell ((w3.alloc o).drewN n0) ⟨w3.heap.size, 0, none⟩ u w.heap.size (Nat.ne_of_lt (blk_lt hG0))).trans (((below_alloc (Below.refl w3.heap.size w3) o).block _ (blk_lt hG0)).trans hG0)
   have hx0 : ∀ (o : Obj) (n0 : Nat) (u : Value), (((w3.alloc o).drewN n0).setCell ⟨w3.heap.size, 0, none⟩ u).cell? ⟨w.heap.size, 0, none⟩ = some (.int .i64 0) := fun o n0 u => (blk_cell (hGo o n0 u) 0).trans rfl
   have hy0 : ∀ (o : Obj) (n0 : Nat) (u : Value), (((w3.alloc o).drewN n0).setCell ⟨w3.heap.size, 0, none⟩ u).frozen? ⟨w.heap.size, 0, none⟩ = false := fun o n0 u => blk_frozen (hGo o n0 u) 0
   have hx1 : ∀ (o : Obj) (n0 : Nat) (u : Value), (((w3.alloc o).drewN n0).setCell ⟨w3.heap.size, 0, none⟩ u).cell? ⟨w.heap.size, 1, none⟩ = some (.slice none 0 0) := fun o n0 u => (blk_cell (hGo o n0 u) 1).trans rfl
   have hy1 : ∀ (o : Obj) (n0 : Nat) (u : Value), (((w3.alloc o).drewN n0).setCell ⟨w3.heap.size, 0, none⟩ u).frozen? ⟨w.heap.size, 1, none⟩ = false := fun o n0 u => blk_frozen (hGo o n0 u) 1
   have hx2 : ∀ (o : Obj) (n0 : Nat) (u : Value), (((w3.alloc o).drewN n0).setCell ⟨w3.heap.size, 0, none⟩ u).cell? ⟨w.heap.size, 2, none⟩ = some (.slice none 0 0) := fun o n0 u => (blk_cell (hGo o n0 u) 2).trans rfl
   have hy2 : ∀ (o : Obj) (n0 : Nat) (u : Value), (((w3.alloc o).drewN n0).setCell ⟨w3.heap.size, 0, none⟩ u).frozen? ⟨w.heap.size, 2, none⟩ = false := fun o n0 u => blk_frozen (hGo o n0 u) 2
   have hx3 : ∀ (o : Obj) (n0 : Nat) (u : Value), (((w3.alloc o).drewN n0).setCell ⟨w3.heap.size, 0, none⟩ u).cell? ⟨w.heap.size, 3, none⟩ = some (.slice none 0 0) := fun o n0 u => (blk_cell (hGo o n0 u) 3).trans rfl
   have hy3 : ∀ (o : Obj) (n0 : Nat) (u : Value), (((w3.alloc o).drewN n0).setCell ⟨w3.heap.size, 0, none⟩ u).frozen? ⟨w.heap.size, 3, none⟩ = false := fun o n0 u => blk_frozen (hGo o n0 u) 3
   go_wp2_with fail
   obtain ⟨V0, hV0⟩ : ∃ V_, V_ = (((w3.alloc (.cells #[.int .i64 5, .slice B1 t0.length q1, .slice B2 t1.length q2, .slice B3 t2.length q3] 30)).drewN (nd1 + nd2)).setCell ⟨w3.heap.size, 0, none⟩ (.int .i64 2)) := ⟨_, rfl⟩
   have hVk : ∀ k_, k_ < w3.heap.size → V0.heap[k_]? = w3.heap[k_]? := fun k_ hk_ => by
    rw [hV0]
    exact (Below.heap_setCell _ ⟨w3.heap.size, 0, none⟩ _ k_ (Nat.ne_of_lt hk_)).trans ((below_alloc (Below.refl w3.heap.size w3) _).block k_ hk_)
   have hVz : V0.heap[w.heap.size]? = some (.cells #[.int .i64 0, .slice none 0 0, .slice none 0 0, .slice none 0 0] 30 (0, 0)) := (hVk _ (blk_lt hG0)).trans hG0
   rw [← hV0]
   refine bodyPost_ret (results_cell_row rfl _ _ w.heap.size 30 #[.int .i64 2, .slice B1 t0.length q1, .slice B2 t1.length q2, .slice B3 t2.length q3] (0, 0) _ rfl (by refine blk_put (cs := #[.int .i64 2, .slice B1 t0.length q1, .slice B2 t1.length q2, .slice none 0 0]) ?_ 3 _ rfl; refine blk_put (cs := #[.int .i64 2, .slice B1 t0.length q1, .slice none 0 0, .slice none 0 0]) ?_ 2 _ rfl; refine blk_put (cs := #[.int .i64 2, .slice none 0 0, .slice none 0 0, .slice none 0 0]) ?_ 1 _ rfl; refine blk_put (cs := #[.int .i64 0, .slice none 0 0, .slice none 0 0, .slice none 0 0]) ?_ 0 _ rfl; exact hVz) Tryd.underlying30 rfl (by kernel_rfl)) rfl ?_
   have hout := OUT.out
   rw [Prod.mk.injEq, Prod.mk.injEq, Prod.mk.injEq] at hout
   obtain ⟨z1, z2, z3, z4⟩ := hout
   rw [← z1, ← z2, ← z3, ← z4]
   have hBV : Below w.heap.size w V0 := by
    rw [hV0]
    exact below_set (pw_below_drewN (below_alloc HBB.out _) _) HBB.out.size
   obtain ⟨f1, f2, f3⟩ := merge_chunk.fin (V := ((((V0.setCell ⟨w.heap.size, 0, none⟩ (.int .i64 2)).setCell ⟨w.heap.size, 1, none⟩ (.slice B1 t0.length q1)).setCell ⟨w.heap.size, 2, none⟩ (.slice B2 t1.length q2)).setCell ⟨w.heap.size, 3, none⟩ (.slice B3 t2.length q3))) G1.out RV1.out RV2.out RV3.out HC1'.out.size HB2.out HB3.out (fun k_ hne hlt => (merge_chunk.set4 V0 w.heap.size k_ hne _ _ _ _).trans (hVk k_ hlt))
   exact ⟨_, _, _, rfl, f1, f2, f3, below_set (below_set (below_set (below_set hBV (Nat.le_refl _)) (Nat.le_refl _)) (Nat.le_refl _)) (Nat.le_refl _)⟩
  | false =>
   rw [if_neg (by decide)] at h
   obtain ⟨b2, h3, h⟩ := Option.bind_eq_some_iff.mp h
   have E2 := Aside0.mk h3
   clear h3
   cases b2 with
   | true =>
    rw [if_pos rfl] at h
    have OUT := Aside0.mk (Option.some.inj h)
    clear h
    go_enter Tryd.func10, Tryd.ntmps10
    go_wp2_with fail
    refine (slices_Clone_string_string.calls A0 c0 l0 t0 _ (Kd.C_below HR0.out HW.out) HC0.out T0.out).mono ?_
    rintro e w1 ⟨v1, rfl, hR1, hb1⟩
    obtain ⟨B1, q1, e1⟩ := Kd.R_slice hR1
    subst e1
    have RV1 := Aside0.mk hR1
    have HC1' := Aside0.mk hb1
    have HB1 := Aside0.mk (HW.out.trans (hb1.mono HW.out.size))
    clear hR1 hb1
    go_wp2_with fail
    refine (slices_Clone_string_string.calls A1 c1 l1 t1 _ (Kd.C_below HR1.out HB1.out) HC1.out T1.out).mono ?_
    rintro e w2 ⟨v2, rfl, hR2, hb2⟩
    obtain ⟨B2, q2, e2⟩ := Kd.R_slice hR2
    subst e2
    have RV2 := Aside0.mk hR2
    have HB2 := Aside0.mk hb2
    clear hR2 hb2
    go_wp2_with fail
    refine (slices_Clone_string_string.calls A2 c2 l2 t2 _ (Kd.C_below HR2.out (HB1.out.trans (HB2.out.mono HB1.out.size))) HC2.out T2.out).mono ?_
    rintro e w3 ⟨v3, rfl, hR3, hb3⟩
    obtain ⟨B3, q3, e3⟩ := Kd.R_slice hR3
    subst e3
    have RV3 := Aside0.mk hR3
    have HB3 := Aside0.mk hb3
    clear hR3 hb3
    have GB := Aside0.mk ((HB3.out.block _ (Nat.lt_of_lt_of_le (Nat.lt_of_lt_of_le G1.out HC1'.out.size) HB2.out.size)).trans ((HB2.out.block _ (Nat.lt_of_lt_of_le G1.out HC1'.out.size)).trans ((HC1'.out.block _ G1.out).trans G0.out)))
    have HBB := Aside0.mk ((HB1.out.trans (HB2.out.mono HB1.out.size)).trans (HB3.out.mono (Nat.le_trans HB1.out.size HB2.out.size)))
    go_wp2_with fail
    refine (slices_Equal_string_string.calls k A1 c1 l1 A2 c2 l2 false _ (by repeat (first | exact Kd.C_below HR1.out HBB.out | (with_reducible refine Kd.C_alloc ?_ _) | (with_reducible refine Kd.C_drewN ?_ _))) HC1.out (by repeat (first | exact Kd.C_below HR2.out HBB.out | (with_reducible refine Kd.C_alloc ?_ _) | (with_reducible refine Kd.C_drewN ?_ _))) HC2.out E0.out).mono ?_
    rintro e w4 ⟨rfl, ⟨nd1, rfl⟩⟩
    go_wp2_with fail
    refine (slices_Equal_string_string.calls k A0 c0 l0 A2 c2 l2 false _ (by repeat (first | exact Kd.C_below HR0.out HBB.out | (with_reducible refine Kd.C_alloc ?_ _) | (with_reducible refine Kd.C_drewN ?_ _))) HC0.out (by repeat (first | exact Kd.C_below HR2.out HBB.out | (with_reducible refine Kd.C_alloc ?_ _) | (with_reducible refine Kd.C_drewN ?_ _))) HC2.out E1.out).mono ?_
    rintro e w4 ⟨rfl, ⟨nd2, rfl⟩⟩
    go_wp2_with fail
    refine (slices_Equal_string_string.calls k A0 c0 l0 A1 c1 l1 true _ (by repeat (first | exact Kd.C_below HR0.out HBB.out | (with_reducible refine Kd.C_alloc ?_ _) | (with_reducible refine Kd.C_drewN ?_ _))) HC0.out (by repeat (first | exact Kd.C_below HR1.out HBB.out | (with_reducible refine Kd.C_alloc ?_ _) | (with_reducible refine Kd.C_drewN ?_ _))) HC1.out E2.out).mono ?_
    rintro e w4 ⟨rfl, ⟨nd3, rfl⟩⟩
    have hG0 : w3.heap[w.heap.size]? = some (.cells #[.int .i64 0, .slice none 0 0, .slice none 0 0, .slice none 0 0] 30 (0, 0)) := GB.out
    have hGo : ∀ (o : Obj) (n0 : Nat) (u : Value), ((((w3.alloc o).drewN n0)).setCell ⟨w3.heap.size, 0, none⟩ u).heap[w.heap.size]? = some (.cells #[.int .i64 0, .slice none 0 0, .slice none 0 0, .slice none 0 0] 30 (0, 0)) := fun o n0 u => (Below.heap_setCell (((w3.alloc o).drewN n0)) ⟨w3.heap.size, 0, none⟩ u w.heap.size (Nat.ne_of_lt (blk_lt hG0))).trans (((below_alloc (Below.refl w3.heap.size w3) o).block _ (blk_lt hG0)).trans hG0)
    have hx0 : ∀ (o : Obj) (n0 : Nat) (u : Value), ((((w3.alloc o).drewN n0)).setCell ⟨w3.heap.size, 0, none⟩ u).cell? ⟨w.heap.size, 0, none⟩ = some (.int .i64 0) := fun o n0 u => (blk_cell (hGo o n0 u) 0).trans rfl
    have hy0 : ∀ (o : Obj) (n0 : Nat) (u : Value), ((((w3.alloc o).drewN n0)).setCell ⟨w3.heap.size, 0, none⟩ u).frozen? ⟨w.heap.size, 0, none⟩ = false := fun o n0 u => blk_frozen (hGo o n0 u) 0
    have hx1 : ∀ (o : Obj) (n0 : Nat) (u : Value), ((((w3.alloc o).drewN n0)).setCell ⟨w3.heap.size, 0, none⟩ u).cell? ⟨w.heap.size, 1, none⟩ = some (.slice none 0 0) := fun o n0 u => (blk_cell (hGo o n0 u) 1).trans rfl
    have hy1 : ∀ (o : Obj) (n0 : Nat) (u : Value), ((((w3.alloc o).drewN n0)).setCell ⟨w3.heap.size, 0, none⟩ u).frozen? ⟨w.heap.size, 1, none⟩ = false := fun o n0 u => blk_frozen (hGo o n0 u) 1
    have hx2 : ∀ (o : Obj) (n0 : Nat) (u : Value), ((((w3.alloc o).drewN n0)).setCell ⟨w3.heap.size, 0, none⟩ u).cell? ⟨w.heap.size, 2, none⟩ = some (.slice none 0 0) := fun o n0 u => (blk_cell (hGo o n0 u) 2).trans rfl
    have hy2 : ∀ (o : Obj) (n0 : Nat) (u : Value), ((((w3.alloc o).drewN n0)).setCell ⟨w3.heap.size, 0, none⟩ u).frozen? ⟨w.heap.size, 2, none⟩ = false := fun o n0 u => blk_frozen (hGo o n0 u) 2
    have hx3 : ∀ (o : Obj) (n0 : Nat) (u : Value), ((((w3.alloc o).drewN n0)).setCell ⟨w3.heap.size, 0, none⟩ u).cell? ⟨w.heap.size, 3, none⟩ = some (.slice none 0 0) := fun o n0 u => (blk_cell (hGo o n0 u) 3).trans rfl
    have hy3 : ∀ (o : Obj) (n0 : Nat) (u : Value), ((((w3.alloc o).drewN n0)).setCell ⟨w3.heap.size, 0, none⟩ u).frozen? ⟨w.heap.size, 3, none⟩ = false := fun o n0 u => blk_frozen (hGo o n0 u) 3
    go_wp2_with fail
    obtain ⟨V0, hV0⟩ : ∃ V_, V_ = (((w3.alloc (.cells #[.int .i64 5, .slice B1 t0.length q1, .slice B2 t1.length q2, .slice B3 t2.length q3] 30)).drewN (nd1 + nd2 + nd3)).setCell ⟨w3.heap.size, 0, none⟩ (.int .i64 3)) := ⟨_, rfl⟩
    have hVk : ∀ k_, k_ < w3.heap.size → V0.heap[k_]? = w3.heap[k_]? := fun k_ hk_ => by
     rw [hV0]
     exact (Below.heap_setCell _ ⟨w3.heap.size, 0, none⟩ _ k_ (Nat.ne_of_lt hk_)).trans ((below_alloc (Below.refl w3.heap.size w3) _).block k_ hk_)
    have hVz : V0.heap[w.heap.size]? = some (.cells #[.int .i64 0, .slice none 0 0, .slice none 0 0, .slice none 0 0] 30 (0, 0)) := (hVk _ (blk_lt hG0)).trans hG0
    rw [← hV0]
    refine bodyPost_ret (results_cell_row rfl _ _ w.heap.size 30 #[.int .i64 3, .slice B1 t0.length q1, .slice B2 t1.length q2, .slice B3 t2.length q3] (0, 0) _ rfl (by refine blk_put (cs := #[.int .i64 3, .slice B1 t0.length q1, .slice B2 t1.length q2, .slice none 0 0]) ?_ 3 _ rfl; refine blk_put (cs := #[.int .i64 3, .slice B1 t0.length q1, .slice none 0 0, .slice none 0 0]) ?_ 2 _ rfl; refine blk_put (cs := #[.int .i64 3, .slice none 0 0, .slice none 0 0, .slice none 0 0]) ?_ 1 _ rfl; refine blk_put (cs := #[.int .i64 0, .slice none 0 0, .slice none 0 0, .slice none 0 0]) ?_ 0 _ rfl; exact hVz) Tryd.underlying30 rfl (by kernel_rfl)) rfl ?_
    have hout := OUT.out
    rw [Prod.mk.injEq, Prod.mk.injEq, Prod.mk.injEq] at hout
    obtain ⟨z1, z2, z3, z4⟩ := hout
    rw [← z1, ← z2, ← z3, ← z4]
    have hBV : Below w.heap.size w V0 := by
     rw [hV0]
     exact below_set (pw_below_drewN (below_alloc HBB.out _) _) HBB.out.size
    obtain ⟨f1, f2, f3⟩ := merge_chunk.fin (V := ((((V0.setCell ⟨w.heap.size, 0, none⟩ (.int .i64 3)).setCell ⟨w.heap.size, 1, none⟩ (.slice B1 t0.length q1)).setCell ⟨w.heap.size, 2, none⟩ (.slice B2 t1.length q2)).setCell ⟨w.heap.size, 3, none⟩ (.slice B3 t2.length q3))) G1.out RV1.out RV2.out RV3.out HC1'.out.size HB2.out HB3.out (fun k_ hne hlt => (merge_chunk.set4 V0 w.heap.size k_ hne _ _ _ _).trans (hVk k_ hlt))
    exact ⟨_, _, _, rfl, f1, f2, f3, below_set (below_set (below_set (below_set hBV (Nat.le_refl _)) (Nat.le_refl _)) (Nat.le_refl _)) (Nat.le_refl _)⟩
   | false =>
    rw [if_neg (by decide)] at h
    have OUT := Aside0.mk (Option.some.inj h)
    clear h
    go_enter Tryd.func10, Tryd.ntmps10
    go_wp2_with fail
    refine (slices_Clone_string_string.calls A0 c0 l0 t0 _ (Kd.C_below HR0.out HW.out) HC0.out T0.out).mono ?_
    rintro e w1 ⟨v1, rfl, hR1, hb1⟩
    obtain ⟨B1, q1, e1⟩ := Kd.R_slice hR1
    subst e1
    have RV1 := Aside0.mk hR1
    have HC1' := Aside0.mk hb1
    have HB1 := Aside0.mk (HW.out.trans (hb1.mono HW.out.size))
    clear hR1 hb1
    go_wp2_with fail
    refine (slices_Clone_string_string.calls A1 c1 l1 t1 _ (Kd.C_below HR1.out HB1.out) HC1.out T1.out).mono ?_
    rintro e w2 ⟨v2, rfl, hR2, hb2⟩
    obtain ⟨B2, q2, e2⟩ := Kd.R_slice hR2
    subst e2
    have RV2 := Aside0.mk hR2
    have HB2 := Aside0.mk hb2
    clear hR2 hb2
    go_wp2_with fail
    refine (slices_Clone_string_string.calls A2 c2 l2 t2 _ (Kd.C_below HR2.out (HB1.out.trans (HB2.out.mono HB1.out.size))) HC2.out T2.out).mono ?_
    rintro e w3 ⟨v3, rfl, hR3, hb3⟩
    obtain ⟨B3, q3, e3⟩ := Kd.R_slice hR3
    subst e3
    have RV3 := Aside0.mk hR3
    have HB3 := Aside0.mk hb3
    clear hR3 hb3
    have GB := Aside0.mk ((HB3.out.block _ (Nat.lt_of_lt_of_le (Nat.lt_of_lt_of_le G1.out HC1'.out.size) HB2.out.size)).trans ((HB2.out.block _ (Nat.lt_of_lt_of_le G1.out HC1'.out.size)).trans ((HC1'.out.block _ G1.out).trans G0.out)))
    have HBB := Aside0.mk ((HB1.out.trans (HB2.out.mono HB1.out.size)).trans (HB3.out.mono (Nat.le_trans HB1.out.size HB2.out.size)))
    go_wp2_with fail
    refine (slices_Equal_string_string.calls k A1 c1 l1 A2 c2 l2 false _ (by repeat (first | exact Kd.C_below HR1.out HBB.out | (with_reducible refine Kd.C_alloc ?_ _) | (with_reducible refine Kd.C_drewN ?_ _))) HC1.out (by repeat (first | exact Kd.C_below HR2.out HBB.out | (with_reducible refine Kd.C_alloc ?_ _) | (with_reducible refine Kd.C_drewN ?_ _))) HC2.out E0.out).mono ?_
    rintro e w4 ⟨rfl, ⟨nd1, rfl⟩⟩
    go_wp2_with fail
    refine (slices_Equal_string_string.calls k A0 c0 l0 A2 c2 l2 false _ (by repeat (first | exact Kd.C_below HR0.out HBB.out | (with_reducible refine Kd.C_alloc ?_ _) | (with_reducible refine Kd.C_drewN ?_ _))) HC0.out (by repeat (first | exact Kd.C_below HR2.out HBB.out | (with_reducible refine Kd.C_alloc ?_ _) | (with_reducible refine Kd.C_drewN ?_ _))) HC2.out E1.out).mono ?_
    rintro e w4 ⟨rfl, ⟨nd2, rfl⟩⟩
    go_wp2_with fail
    refine (slices_Equal_string_string.calls k A0 c0 l0 A1 c1 l1 false _ (by repeat (first | exact Kd.C_below HR0.out HBB.out | (with_reducible refine Kd.C_alloc ?_ _) | (with_reducible refine Kd.C_drewN ?_ _))) HC0.out (by repeat (first | exact Kd.C_below HR1.out HBB.out | (with_reducible refine Kd.C_alloc ?_ _) | (with_reducible refine Kd.C_drewN ?_ _))) HC1.out E2.out).mono ?_
    rintro e w4 ⟨rfl, ⟨nd3, rfl⟩⟩
    have hG0 : w3.heap[w.heap.size]? = some (.cells #[.int .i64 0, .slice none 0 0, .slice none 0 0, .slice none 0 0] 30 (0, 0)) := GB.out
    have hGo : ∀ (o : Obj) (n0 : Nat), (((w3.alloc o).drewN n0)).heap[w.heap.size]? = some (.cells #[.int .i64 0, .slice none 0 0, .slice none 0 0, .slice none 0 0] 30 (0, 0)) := fun o n0 => ((below_alloc (Below.refl w3.heap.size w3) o).block _ (blk_lt hG0)).trans hG0
    have hx0 : ∀ (o : Obj) (n0 : Nat), (((w3.alloc o).drewN n0)).cell? ⟨w.heap.size, 0, none⟩ = some (.int .i64 0) := fun o n0 => (blk_cell (hGo o n0) 0).trans rfl
    have hy0 : ∀ (o : Obj) (n0 : Nat), (((w3.alloc o).drewN n0)).frozen? ⟨w.heap.size, 0, none⟩ = false := fun o n0 => blk_frozen (hGo o n0) 0
    have hx1 : ∀ (o : Obj) (n0 : Nat), (((w3.alloc o).drewN n0)).cell? ⟨w.heap.size, 1, none⟩ = some (.slice none 0 0) := fun o n0 => (blk_cell (hGo o n0) 1).trans rfl
    have hy1 : ∀ (o : Obj) (n0 : Nat), (((w3.alloc o).drewN n0)).frozen? ⟨w.heap.size, 1, none⟩ = false := fun o n0 => blk_frozen (hGo o n0) 1
    have hx2 : ∀ (o : Obj) (n0 : Nat), (((w3.alloc o).drewN n0)).cell? ⟨w.heap.size, 2, none⟩ = some (.slice none 0 0) := fun o n0 => (blk_cell (hGo o n0) 2).trans rfl
    have hy2 : ∀ (o : Obj) (n0 : Nat), (((w3.alloc o).drewN n0)).frozen? ⟨w.heap.size, 2, none⟩ = false := fun o n0 => blk_frozen (hGo o n0) 2
    have hx3 : ∀ (o : Obj) (n0 : Nat), (((w3.alloc o).drewN n0)).cell? ⟨w.heap.size, 3, none⟩ = some (.slice none 0 0) := fun o n0 => (blk_cell (hGo o n0) 3).trans rfl
    have hy3 : ∀ (o : Obj) (n0 : Nat), (((w3.alloc o).drewN n0)).frozen? ⟨w.heap.size, 3, none⟩ = false := fun o n0 => blk_frozen (hGo o n0) 3
    go_wp2_with fail
    obtain ⟨V0, hV0⟩ : ∃ V_, V_ = ((w3.alloc (.cells #[.int .i64 5, .slice B1 t0.length q1, .slice B2 t1.length q2, .slice B3 t2.length q3] 30)).drewN (nd1 + nd2 + nd3)) := ⟨_, rfl⟩
    have hVk : ∀ k_, k_ < w3.heap.size → V0.heap[k_]? = w3.heap[k_]? := fun k_ hk_ => by
     rw [hV0]
     exact (below_alloc (Below.refl w3.heap.size w3) _).block k_ hk_
    have hVz : V0.heap[w.heap.size]? = some (.cells #[.int .i64 0, .slice none 0 0, .slice none 0 0, .slice none 0 0] 30 (0, 0)) := (hVk _ (blk_lt hG0)).trans hG0
    rw [← hV0]
    refine bodyPost_ret (results_cell_row rfl _ _ w.heap.size 30 #[.int .i64 5, .slice B1 t0.length q1, .slice B2 t1.length q2, .slice B3 t2.length q3] (0, 0) _ rfl (by refine blk_put (cs := #[.int .i64 5, .slice B1 t0.length q1, .slice B2 t1.length q2, .slice none 0 0]) ?_ 3 _ rfl; refine blk_put (cs := #[.int .i64 5, .slice B1 t0.length q1, .slice none 0 0, .slice none 0 0]) ?_ 2 _ rfl; refine blk_put (cs := #[.int .i64 5, .slice none 0 0, .slice none 0 0, .slice none 0 0]) ?_ 1 _ rfl; refine blk_put (cs := #[.int .i64 0, .slice none 0 0, .slice none 0 0, .slice none 0 0]) ?_ 0 _ rfl; exact hVz) Tryd.underlying30 rfl (by kernel_rfl)) rfl ?_
    have hout := OUT.out
    rw [Prod.mk.injEq, Prod.mk.injEq, Prod.mk.injEq] at hout
    obtain ⟨z1, z2, z3, z4⟩ := hout
    rw [← z1, ← z2, ← z3, ← z4]
    have hBV : Below w.heap.size w V0 := by
     rw [hV0]
     exact pw_below_drewN (below_alloc HBB.out _) _
    obtain ⟨f1, f2, f3⟩ := merge_chunk.fin (V := ((((V0.setCell ⟨w.heap.size, 0, none⟩ (.int .i64 5)).setCell ⟨w.heap.size, 1, none⟩ (.slice B1 t0.length q1)).setCell ⟨w.heap.size, 2, none⟩ (.slice B2 t1.length q2)).setCell ⟨w.heap.size, 3, none⟩ (.slice B3 t2.length q3))) G1.out RV1.out RV2.out RV3.out HC1'.out.size HB2.out HB3.out (fun k_ hne hlt => (merge_chunk.set4 V0 w.heap.size k_ hne _ _ _ _).trans (hVk k_ hlt))
    exact ⟨_, _, _, rfl, f1, f2, f3, below_set (below_set (below_set (below_set hBV (Nat.le_refl _)) (Nat.le_refl _)) (Nat.le_refl _)) (Nat.le_refl _)⟩


end Go.Proofs.YthdmioocgofaeaaDoor.M
