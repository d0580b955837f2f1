/- The program's functions as plain functions, and that each call comes to what these tell; written by a program of this session, some contracts by hand. Conditions: none. -/
import Derived.BigQuiet
import Derived.Outline
import Derived.Great.Walk
import Derived.Test.YthdmioocgofaeaaDoorMx0
import Derived.Test.YthdmioocgofaeaaDoorMx1
import Derived.Test.YthdmioocgofaeaaDoorMx5
import Derived.Test.YthdmioocgofaeaaDoorMx7
namespace Go.Proofs.YthdmioocgofaeaaDoor.M
open Go.RowKit Go.Proofs.YthdmioocgofaeaaDoorW.PrintWords Go.Proofs.YthdmioocgofaeaaDoorW.PrintLast Go.Proofs.YthdmioocgofaeaaDoorW.PrintMore
attribute [local go_sem] max2_int min2_int max_two min_two max_three min_three max_four min_four   -- for this text's walks alone
set_option linter.unusedVariables false
set_option linter.unusedSimpArgs false

/-! ### pollardlaw19_MergeCovers: function 3 -/
mutual
def pollardlaw19_MergeCovers.j0 : Nat → List ByteArray → List ByteArray → List ByteArray → List (S30) → Bool → Option (Bool)
 | 0, _, _, _, _, _ => none
 | k + 1, x7, x8, x9, x10, x35 => if x35 = true then (none) else (pollardlaw19_MergeCovers.l0 k x7 x8 x9 x10 (([] : List ByteArray)) (([] : List ByteArray)) (([] : List ByteArray)) 0)
def pollardlaw19_MergeCovers.l0 : Nat → List ByteArray → List ByteArray → List ByteArray → List (S30) → List ByteArray → List ByteArray → List ByteArray → Int → Option (Bool)
 | 0, _, _, _, _, _, _, _, _ => none
 | k + 1, x7, x8, x9, x10, x12, x13, x14, x15 => if x15 < (x10.length : Int) then (if 0 ≤ x15 then (if x12.length + ((rd_T30 x10 x15).f1).length < 8796093022208 then ((some (x12 ++ ((rd_T30 x10 x15).f1) : List ByteArray)).bind fun y240 => (if x13.length + ((rd_T30 x10 x15).f2).length < 8796093022208 then ((some (x13 ++ ((rd_T30 x10 x15).f2) : List ByteArray)).bind fun y244 => (if x14.length + ((rd_T30 x10 x15).f3).length < 8796093022208 then ((some (x14 ++ ((rd_T30 x10 x15).f3) : List ByteArray)).bind fun y248 => ((pollardref19_Same.f k ((rd_T30 x10 x15).f1) ((rd_T30 x10 x15).f2)).bind fun t253 => (if t253 = true then ((pollardref19_Same.f k ((rd_T30 x10 x15).f1) ((rd_T30 x10 x15).f3)).bind fun t256 => (if ((((rd_T30 x10 x15).f0) == 1) != t256) = true then (none) else (if x15 > 0 then (if ((rd_T30 x10 x15).f0) = 1 then (if 0 ≤ (wrap64 (x15 - 1)) then (if (wrap64 (x15 - 1)) < (x10.length : Int) then (if ((rd_T30 x10 (wrap64 (x15 - 1))).f0) = 1 then (none) else (pollardlaw19_MergeCovers.l0 k x7 x8 x9 x10 y240 y244 y248 (wrap64 (x15 + 1)))) else (none)) else (none)) else (pollardlaw19_MergeCovers.l0 k x7 x8 x9 x10 y240 y244 y248 (wrap64 (x15 + 1)))) else (pollardlaw19_MergeCovers.l0 k x7 x8 x9 x10 y240 y244 y248 (wrap64 (x15 + 1)))))) else (if ((((rd_T30 x10 x15).f0) == 1) != false) = true then (none) else (if x15 > 0 then (if ((rd_T30 x10 x15).f0) = 1 then (if 0 ≤ (wrap64 (x15 - 1)) then (if (wrap64 (x15 - 1)) < (x10.length : Int) then (if ((rd_T30 x10 (wrap64 (x15 - 1))).f0) = 1 then (none) else (pollardlaw19_MergeCovers.l0 k x7 x8 x9 x10 y240 y244 y248 (wrap64 (x15 + 1)))) else (none)) else (none)) else (pollardlaw19_MergeCovers.l0 k x7 x8 x9 x10 y240 y244 y248 (wrap64 (x15 + 1)))) else (pollardlaw19_MergeCovers.l0 k x7 x8 x9 x10 y240 y244 y248 (wrap64 (x15 + 1)))))))) else (none))) else (none))) else (none)) else (none)) else ((pollardref19_Same.f k x12 x7).bind fun t236 => (if t236 = true then ((pollardref19_Same.f k x13 x8).bind fun t237 => (if t237 = true then ((pollardref19_Same.f k x14 x9).bind fun t238 => (some t238)) else (none))) else (none)))
end
def pollardlaw19_MergeCovers.f (k : Nat) (l0 : List ByteArray) (l1 : List ByteArray) (l2 : List ByteArray) : Option (Bool) := (pollardlaw18_Cut.f l0).bind fun t213 => ((pollardlaw18_Cut.f l1).bind fun t216 => ((pollardlaw18_Cut.f l2).bind fun t219 => ((merge_Chunks.f k t213 t216 t219).bind fun bt222 => ((pollardlaw19_awake.f k).bind fun t226 => (if t226 = true then (pollardlaw19_MergeCovers.j0 k t213 t216 t219 bt222.1 (bt222.2 != 0)) else (pollardlaw19_MergeCovers.j0 k t213 t216 t219 bt222.1 true))))))
theorem pollardlaw19_MergeCovers.mono_l : ∀ k, (∀ y0 y1 y2 y3 y4, LeO (pollardlaw19_MergeCovers.j0 k y0 y1 y2 y3 y4) (pollardlaw19_MergeCovers.j0 (k + 1) y0 y1 y2 y3 y4)) ∧ (∀ y0 y1 y2 y3 y4 y5 y6 y7, LeO (pollardlaw19_MergeCovers.l0 k y0 y1 y2 y3 y4 y5 y6 y7) (pollardlaw19_MergeCovers.l0 (k + 1) y0 y1 y2 y3 y4 y5 y6 y7))
 | 0 => ⟨fun _ _ _ _ _ r h => by simp [pollardlaw19_MergeCovers.j0] at h, fun _ _ _ _ _ _ _ _ r h => by simp [pollardlaw19_MergeCovers.l0] at h⟩
 | k + 1 => by
  obtain ⟨ih0, ih1⟩ := pollardlaw19_MergeCovers.mono_l k
  refine ⟨?_, ?_⟩
  ·
   intro y0 y1 y2 y3 y4
   unfold pollardlaw19_MergeCovers.j0
   repeat' first
   | (with_reducible exact ih0 _ _ _ _ _)
   | (with_reducible exact ih1 _ _ _ _ _ _ _ _)
   | (with_reducible exact merge_Chunks.mono _ _ _ _)
   | (with_reducible exact pollardlaw19_awake.mono _)
   | (with_reducible exact pollardref19_Same.mono _ _ _)
   | (with_reducible exact LeO.refl _)
   | (with_reducible exact LeO.none _)
   | (with_reducible refine LeO.ite ?_ ?_)
   | (with_reducible refine LeO.bind ?_ (fun _ => ?_))
   | exact ih0 _ _ _ _ _
   | exact ih1 _ _ _ _ _ _ _ _
   | exact merge_Chunks.mono _ _ _ _
   | exact pollardlaw19_awake.mono _
   | exact pollardref19_Same.mono _ _ _
   | exact LeO.none _
   | refine LeO.ite ?_ ?_
   | refine LeO.bind ?_ (fun _ => ?_)
  ·
   intro y0 y1 y2 y3 y4 y5 y6 y7
   unfold pollardlaw19_MergeCovers.l0
   repeat' first
   | (with_reducible exact ih0 _ _ _ _ _)
   | (with_reducible exact ih1 _ _ _ _ _ _ _ _)
   | (with_reducible exact merge_Chunks.mono _ _ _ _)
   | (with_reducible exact pollardlaw19_awake.mono _)
   | (with_reducible exact pollardref19_Same.mono _ _ _)
   | (with_reducible exact LeO.refl _)
   | (with_reducible exact LeO.none _)
   | (with_reducible refine LeO.ite ?_ ?_)
   | (with_reducible refine LeO.bind ?_ (fun _ => ?_))
   | exact ih0 _ _ _ _ _
   | exact ih1 _ _ _ _ _ _ _ _
   | exact merge_Chunks.mono _ _ _ _
   | exact pollardlaw19_awake.mono _
   | exact pollardref19_Same.mono _ _ _
   | exact LeO.none _
   | refine LeO.ite ?_ ?_
   | refine LeO.bind ?_ (fun _ => ?_)
theorem pollardlaw19_MergeCovers.mono : ∀ a0 a1 a2 k, LeO (pollardlaw19_MergeCovers.f k a0 a1 a2) (pollardlaw19_MergeCovers.f (k + 1) a0 a1 a2) := by
 intro a0 a1 a2 k
 obtain ⟨ih0, ih1⟩ := pollardlaw19_MergeCovers.mono_l k
 unfold pollardlaw19_MergeCovers.f
 repeat' first
  | (with_reducible exact ih0 _ _ _ _ _)
  | (with_reducible exact ih1 _ _ _ _ _ _ _ _)
  | (with_reducible exact merge_Chunks.mono _ _ _ _)
  | (with_reducible exact pollardlaw19_awake.mono _)
  | (with_reducible exact pollardref19_Same.mono _ _ _)
  | (with_reducible exact LeO.refl _)
  | (with_reducible exact LeO.none _)
  | (with_reducible refine LeO.ite ?_ ?_)
  | (with_reducible refine LeO.bind ?_ (fun _ => ?_))
  | exact ih0 _ _ _ _ _
  | exact ih1 _ _ _ _ _ _ _ _
  | exact merge_Chunks.mono _ _ _ _
  | exact pollardlaw19_awake.mono _
  | exact pollardref19_Same.mono _ _ _
  | exact LeO.none _
  | refine LeO.ite ?_ ?_
  | refine LeO.bind ?_ (fun _ => ?_)
theorem cov.take {P : Program} {ops : Array Oper} {Q : Exit → Act → World → Prop} {md : Region.Mode} {S : World → Prop} {i : Nat} {oi : Oper} {d : Option Tmp} {v : Value} {fuel : Nat} {listed : Array Bool} {a : Act} {w : World} (hi : ops[i]? = some oi) (hd : oi.dst = d)
 (hs : Region.noSelect ops = true) (hf : Region.free md ops listed i = true) (hr : (Region.ready md ops listed).contains i = true)
 (hQ : ∀ c a w, Q (.panic c) (a.put d v) w → Q (.panic c) a w) (hy : YieldsIf P ops S oi v a) (hS : S w)
 (h : wpAnyH P md ops Q S fuel (listed.setIfInBounds i true) (a.put d v) w) : wpAnyH P md ops Q S (fuel + 1) listed a w := by
 subst hd
 exact wpAnyH_take hi hs hf hr hQ hy hS h
theorem cov.weaken {P : Program} {md : Region.Mode} {ops : Array Oper} {Q : Exit → Act → World → Prop} {S S' : World → Prop} (hSS : ∀ w, S' w → S w) : ∀ (fuel : Nat) (listed : Array Bool) (a : Act) (w : World), wpAnyH P md ops Q S' fuel listed a w → wpAnyH P md ops Q S fuel listed a w
 | 0, _, _, _, h => h
 | fuel + 1, _, _, _, h => ⟨h.1, fun i hi => wpOp_mono (fun a' w' h' => ⟨hSS _ h'.1, cov.weaken hSS fuel _ a' w' h'.2⟩) (h.2 i hi)⟩
theorem cov.keep {W w1 : World} {row : Option Nat} (hg : W.grownBy w1 row) {b o : Nat} {v : Value} (hx : W.cell? ⟨b, o, none⟩ = some v) (hne : some b ≠ row) : w1.cell? ⟨b, o, none⟩ = some v := by
 have hb := hg.block b (World.block_lt_of_cell? _ _ hx) hne
 unfold World.cell? at hx ⊢
 rw [hb]
 exact hx
set_option maxHeartbeats 8000000 in
set_option maxRecDepth 100000 in
theorem pollardlaw19_MergeCovers.calls (k : Nat) (A0 : Option Addr) (c0 : Nat) (l0 : List ByteArray) (A1 : Option Addr) (c1 : Nat) (l1 : List ByteArray) (A2 : Option Addr) (c2 : Nat) (l2 : List ByteArray) (r : Bool) (w : World) (hr0 : Kd.C Kd.string w A0 l0.length l0) (hc0 : l0.length ≤ c0) (hr1 : Kd.C Kd.string w A1 l1.length l1) (hc1 : l1.length ≤ c1) (hr2 : Kd.C Kd.string w A2 l2.length l2) (hc2 : l2.length ≤ c2) (h : pollardlaw19_MergeCovers.f k l0 l1 l2 = some r) :
 Calls Tryd.prog 3 #[.slice A0 l0.length c0, .slice A1 l1.length c1, .slice A2 l2.length c2] w fun e w' => e = .returned (.bool r) ∧ Below w.heap.size w w' := by
 have HR0 := Aside0.mk hr0
 have HC0 := Aside0.mk hc0
 clear hr0 hc0
 have HR1 := Aside0.mk hr1
 have HC1 := Aside0.mk hc1
 clear hr1 hc1
 have HR2 := Aside0.mk hr2
 have HC2 := Aside0.mk hc2
 clear hr2 hc2
 have HB := Aside0.mk (Below.refl w.heap.size w)
 have H : ((pollardlaw18_Cut.f l0).bind fun t213 => ((pollardlaw18_Cut.f l1).bind fun t216 => ((pollardlaw18_Cut.f l2).bind fun t219 => ((merge_Chunks.f k t213 t216 t219).bind fun bt222 => ((pollardlaw19_awake.f k).bind fun t226 => (if t226 = true then (pollardlaw19_MergeCovers.j0 k t213 t216 t219 bt222.1 (bt222.2 != 0)) else (pollardlaw19_MergeCovers.j0 k t213 t216 t219 bt222.1 true))))))) = some r := h
 clear h
 replace H := Option.bind_eq_some_iff.mp H
 obtain ⟨t213, A40, H⟩ := H
 replace H : ((pollardlaw18_Cut.f l1).bind fun t216 => ((pollardlaw18_Cut.f l2).bind fun t219 => ((merge_Chunks.f k t213 t216 t219).bind fun bt222 => ((pollardlaw19_awake.f k).bind fun t226 => (if t226 = true then (pollardlaw19_MergeCovers.j0 k t213 t216 t219 bt222.1 (bt222.2 != 0)) else (pollardlaw19_MergeCovers.j0 k t213 t216 t219 bt222.1 true)))))) = some r := H
 have A4 := Aside0.mk A40
 clear A40
 replace H := Option.bind_eq_some_iff.mp H
 obtain ⟨t216, A50, H⟩ := H
 replace H : ((pollardlaw18_Cut.f l2).bind fun t219 => ((merge_Chunks.f k t213 t216 t219).bind fun bt222 => ((pollardlaw19_awake.f k).bind fun t226 => (if t226 = true then (pollardlaw19_MergeCovers.j0 k t213 t216 t219 bt222.1 (bt222.2 != 0)) else (pollardlaw19_MergeCovers.j0 k t213 t216 t219 bt222.1 true))))) = some r := H
 have A5 := Aside0.mk A50
 clear A50
 replace H := Option.bind_eq_some_iff.mp H
 obtain ⟨t219, A60, H⟩ := H
 replace H : ((merge_Chunks.f k t213 t216 t219).bind fun bt222 => ((pollardlaw19_awake.f k).bind fun t226 => (if t226 = true then (pollardlaw19_MergeCovers.j0 k t213 t216 t219 bt222.1 (bt222.2 != 0)) else (pollardlaw19_MergeCovers.j0 k t213 t216 t219 bt222.1 true)))) = some r := H
 have A6 := Aside0.mk A60
 clear A60
 replace H := Option.bind_eq_some_iff.mp H
 obtain ⟨⟨t222, t223⟩, A70, H⟩ := H
 replace H : ((pollardlaw19_awake.f k).bind fun t226 => (if t226 = true then (pollardlaw19_MergeCovers.j0 k t213 t216 t219 t222 (t223 != 0)) else (pollardlaw19_MergeCovers.j0 k t213 t216 t219 t222 true))) = some r := H
 have A7 := Aside0.mk A70
 clear A70
 have HC8 := Aside0.mk H
 clear H
 go_enter Tryd.func3, Tryd.ntmps3
 go_upto_region 3 with (first | (go_at_call 4; (with_reducible refine (pollardlaw18_Cut.calls (fun k_ => k_ < w.heap.size) _ _ l0 t213 _ ?side1 A4.out).mono ?_); (case side1 => exact Kd.V_mk HC0.out (Kd.F_below (Kd.C_F Kd.heap_string HR0.out) (by repeat (first | (with_reducible first | exact HB.out | apply below_alloc | apply pw_below_drewN | apply below_drew1) | exact HB.out)))); rintro e w9 ⟨v214, rfl, ho0, hb⟩; have n0_ := Aside0.mk (Kd.V_lower (Kd.V_mono (ok' := fun k_ => True) ho0 (fun k_ hk_ => trivial)) (below_size (by repeat (first | (with_reducible first | exact HB.out | apply below_alloc | apply pw_below_drewN | apply below_drew1) | exact HB.out)))); have n1_ := Aside0.mk (below_step (by repeat (first | (with_reducible first | exact HB.out | apply below_alloc | apply pw_below_drewN | apply below_drew1) | exact HB.out)) hb); clear HB; have HO215 := n0_; have HB := n1_; clear n0_ n1_; (try clear hb); (try clear hb2); (try clear hk); (try clear hi); (try clear ho0)) | (go_at_call 4; (with_reducible refine (pollardlaw18_Cut.calls (fun k_ => k_ < w.heap.size) _ _ l1 t216 _ ?side1 A5.out).mono ?_); (case side1 => exact Kd.V_mk HC1.out (Kd.F_below (Kd.C_F Kd.heap_string HR1.out) (by repeat (first | (with_reducible first | exact HB.out | apply below_alloc | apply pw_below_drewN | apply below_drew1) | exact HB.out)))); rintro e w10 ⟨v217, rfl, ho0, hb⟩; have n0_ := Aside0.mk (Kd.V_below (by (with_reducible repeat (first | apply Kd.V_alloc | apply Kd.V_drewN | apply Kd.V_drew)); exact HO215.out) hb); have n1_ := Aside0.mk (Kd.V_lower (Kd.V_mono (ok' := fun k_ => True) ho0 (fun k_ hk_ => trivial)) (below_size (by repeat (first | (with_reducible first | exact HB.out | apply below_alloc | apply pw_below_drewN | apply below_drew1) | exact HB.out)))); have n2_ := Aside0.mk (below_step (by repeat (first | (with_reducible first | exact HB.out | apply below_alloc | apply pw_below_drewN | apply below_drew1) | exact HB.out)) hb); clear HO215; clear HB; have HO215 := n0_; have HO218 := n1_; have HB := n2_; clear n0_ n1_ n2_; (try clear hb); (try clear hb2); (try clear hk); (try clear hi); (try clear ho0)) | (go_at_call 4; (with_reducible refine (pollardlaw18_Cut.calls (fun k_ => k_ < w.heap.size) _ _ l2 t219 _ ?side1 A6.out).mono ?_); (case side1 => exact Kd.V_mk HC2.out (Kd.F_below (Kd.C_F Kd.heap_string HR2.out) (by repeat (first | (with_reducible first | exact HB.out | apply below_alloc | apply pw_below_drewN | apply below_drew1) | exact HB.out)))); rintro e w11 ⟨v220, rfl, ho0, hb⟩; have n0_ := Aside0.mk (Kd.V_below (by (with_reducible repeat (first | apply Kd.V_alloc | apply Kd.V_drewN | apply Kd.V_drew)); exact HO215.out) hb); have n1_ := Aside0.mk (Kd.V_below (by (with_reducible repeat (first | apply Kd.V_alloc | apply Kd.V_drewN | apply Kd.V_drew)); exact HO218.out) hb); have n2_ := Aside0.mk (Kd.V_lower (Kd.V_mono (ok' := fun k_ => True) ho0 (fun k_ hk_ => trivial)) (below_size (by repeat (first | (with_reducible first | exact HB.out | apply below_alloc | apply pw_below_drewN | apply below_drew1) | exact HB.out)))); have n3_ := Aside0.mk (below_step (by repeat (first | (with_reducible first | exact HB.out | apply below_alloc | apply pw_below_drewN | apply below_drew1) | exact HB.out)) hb); clear HO215; clear HO218; clear HB; have HO215 := n0_; have HO218 := n1_; have HO221 := n2_; have HB := n3_; clear n0_ n1_ n2_ n3_; (try clear hb); (try clear hb2); (try clear hk); (try clear hi); (try clear ho0); obtain ⟨Ao12, co12, eo12⟩ := Kd.V_slice HO215.out; subst eo12; obtain ⟨Ao13, co13, eo13⟩ := Kd.V_slice HO218.out; subst eo13; obtain ⟨Ao14, co14, eo14⟩ := Kd.V_slice HO221.out; subst eo14) | (go_at_call 5; (with_reducible refine (merge_Chunks.calls k _ _ t213 _ _ t216 _ _ t219 t222 t223 _ ?side1 ?side2 ?side3 ?side4 ?side5 ?side6 A7.out).mono ?_); (case side1 => repeat (first | exact (Kd.V_reads' HO215.out).2.2 | (with_reducible refine Kd.C_alloc ?_ _) | (with_reducible refine Kd.C_drewN ?_ _) | (with_reducible refine Kd.C_drew ?_))); (case side2 => exact (Kd.V_reads' HO215.out).2.1); (case side3 => repeat (first | exact (Kd.V_reads' HO218.out).2.2 | (with_reducible refine Kd.C_alloc ?_ _) | (with_reducible refine Kd.C_drewN ?_ _) | (with_reducible refine Kd.C_drew ?_))); (case side4 => exact (Kd.V_reads' HO218.out).2.1); (case side5 => repeat (first | exact (Kd.V_reads' HO221.out).2.2 | (with_reducible refine Kd.C_alloc ?_ _) | (with_reducible refine Kd.C_drewN ?_ _) | (with_reducible refine Kd.C_drew ?_))); (case side6 => exact (Kd.V_reads' HO221.out).2.1); rintro e w15 ⟨v224, rfl, ho0, hb⟩; have n0_ := Aside0.mk (Kd.V_elder' (by (with_reducible repeat (first | apply Kd.V_alloc | apply Kd.V_drewN | apply Kd.V_drew)); exact HO215.out) (Kd.S_base ho0) hb); have n1_ := Aside0.mk (Kd.V_elder' (by (with_reducible repeat (first | apply Kd.V_alloc | apply Kd.V_drewN | apply Kd.V_drew)); exact HO218.out) (Kd.S_base ho0) hb); have n2_ := Aside0.mk (Kd.V_elder' (by (with_reducible repeat (first | apply Kd.V_alloc | apply Kd.V_drewN | apply Kd.V_drew)); exact HO221.out) (Kd.S_base ho0) hb); have n3_ := Aside0.mk (Kd.S_lower ho0 (below_size (by repeat (first | (with_reducible first | exact HB.out | apply below_alloc | apply pw_below_drewN | apply below_drew1) | exact HB.out)))); have n4_ := Aside0.mk (below_step (by repeat (first | (with_reducible first | exact HB.out | apply below_alloc | apply pw_below_drewN | apply below_drew1) | exact HB.out)) hb); clear HO215; clear HO218; clear HO221; clear HB; have HO215 := n0_; have HO218 := n1_; have HO221 := n2_; have HO225 := n3_; have HB := n4_; clear n0_ n1_ n2_ n3_ n4_; (try clear hb); (try clear hb2); (try clear hk); (try clear hi); (try clear ho0)))
 repeat (go_quiet (first | (go_at_call 4; (with_reducible refine (pollardlaw18_Cut.calls (fun k_ => k_ < w.heap.size) _ _ l0 t213 _ ?side1 A4.out).mono ?_); (case side1 => exact Kd.V_mk HC0.out (Kd.F_below (Kd.C_F Kd.heap_string HR0.out) (by repeat (first | (with_reducible first | exact HB.out | apply below_alloc | apply pw_below_drewN | apply below_drew1) | exact HB.out)))); rintro e w9 ⟨v214, rfl, ho0, hb⟩; have n0_ := Aside0.mk (Kd.V_lower (Kd.V_mono (ok' := fun k_ => True) ho0 (fun k_ hk_ => trivial)) (below_size (by repeat (first | (with_reducible first | exact HB.out | apply below_alloc | apply pw_below_drewN | apply below_drew1) | exact HB.out)))); have n1_ := Aside0.mk (below_step (by repeat (first | (with_reducible first | exact HB.out | apply below_alloc | apply pw_below_drewN | apply below_drew1) | exact HB.out)) hb); clear HB; have HO215 := n0_; have HB := n1_; clear n0_ n1_; (try clear hb); (try clear hb2); (try clear hk); (try clear hi); (try clear ho0)) | (go_at_call 4; (with_reducible refine (pollardlaw18_Cut.calls (fun k_ => k_ < w.heap.size) _ _ l1 t216 _ ?side1 A5.out).mono ?_); (case side1 => exact Kd.V_mk HC1.out (Kd.F_below (Kd.C_F Kd.heap_string HR1.out) (by repeat (first | (with_reducible first | exact HB.out | apply below_alloc | apply pw_below_drewN | apply below_drew1) | exact HB.out)))); rintro e w10 ⟨v217, rfl, ho0, hb⟩; have n0_ := Aside0.mk (Kd.V_below (by (with_reducible repeat (first | apply Kd.V_alloc | apply Kd.V_drewN | apply Kd.V_drew)); exact HO215.out) hb); have n1_ := Aside0.mk (Kd.V_lower (Kd.V_mono (ok' := fun k_ => True) ho0 (fun k_ hk_ => trivial)) (below_size (by repeat (first | (with_reducible first | exact HB.out | apply below_alloc | apply pw_below_drewN | apply below_drew1) | exact HB.out)))); have n2_ := Aside0.mk (below_step (by repeat (first | (with_reducible first | exact HB.out | apply below_alloc | apply pw_below_drewN | apply below_drew1) | exact HB.out)) hb); clear HO215; clear HB; have HO215 := n0_; have HO218 := n1_; have HB := n2_; clear n0_ n1_ n2_; (try clear hb); (try clear hb2); (try clear hk); (try clear hi); (try clear ho0)) | (go_at_call 4; (with_reducible refine (pollardlaw18_Cut.calls (fun k_ => k_ < w.heap.size) _ _ l2 t219 _ ?side1 A6.out).mono ?_); (case side1 => exact Kd.V_mk HC2.out (Kd.F_below (Kd.C_F Kd.heap_string HR2.out) (by repeat (first | (with_reducible first | exact HB.out | apply below_alloc | apply pw_below_drewN | apply below_drew1) | exact HB.out)))); rintro e w11 ⟨v220, rfl, ho0, hb⟩; have n0_ := Aside0.mk (Kd.V_below (by (with_reducible repeat (first | apply Kd.V_alloc | apply Kd.V_drewN | apply Kd.V_drew)); exact HO215.out) hb); have n1_ := Aside0.mk (Kd.V_below (by (with_reducible repeat (first | apply Kd.V_alloc | apply Kd.V_drewN | apply Kd.V_drew)); exact HO218.out) hb); have n2_ := Aside0.mk (Kd.V_lower (Kd.V_mono (ok' := fun k_ => True) ho0 (fun k_ hk_ => trivial)) (below_size (by repeat (first | (with_reducible first | exact HB.out | apply below_alloc | apply pw_below_drewN | apply below_drew1) | exact HB.out)))); have n3_ := Aside0.mk (below_step (by repeat (first | (with_reducible first | exact HB.out | apply below_alloc | apply pw_below_drewN | apply below_drew1) | exact HB.out)) hb); clear HO215; clear HO218; clear HB; have HO215 := n0_; have HO218 := n1_; have HO221 := n2_; have HB := n3_; clear n0_ n1_ n2_ n3_; (try clear hb); (try clear hb2); (try clear hk); (try clear hi); (try clear ho0); obtain ⟨Ao12, co12, eo12⟩ := Kd.V_slice HO215.out; subst eo12; obtain ⟨Ao13, co13, eo13⟩ := Kd.V_slice HO218.out; subst eo13; obtain ⟨Ao14, co14, eo14⟩ := Kd.V_slice HO221.out; subst eo14) | (go_at_call 5; (with_reducible refine (merge_Chunks.calls k _ _ t213 _ _ t216 _ _ t219 t222 t223 _ ?side1 ?side2 ?side3 ?side4 ?side5 ?side6 A7.out).mono ?_); (case side1 => repeat (first | exact (Kd.V_reads' HO215.out).2.2 | (with_reducible refine Kd.C_alloc ?_ _) | (with_reducible refine Kd.C_drewN ?_ _) | (with_reducible refine Kd.C_drew ?_))); (case side2 => exact (Kd.V_reads' HO215.out).2.1); (case side3 => repeat (first | exact (Kd.V_reads' HO218.out).2.2 | (with_reducible refine Kd.C_alloc ?_ _) | (with_reducible refine Kd.C_drewN ?_ _) | (with_reducible refine Kd.C_drew ?_))); (case side4 => exact (Kd.V_reads' HO218.out).2.1); (case side5 => repeat (first | exact (Kd.V_reads' HO221.out).2.2 | (with_reducible refine Kd.C_alloc ?_ _) | (with_reducible refine Kd.C_drewN ?_ _) | (with_reducible refine Kd.C_drew ?_))); (case side6 => exact (Kd.V_reads' HO221.out).2.1); rintro e w15 ⟨v224, rfl, ho0, hb⟩; have n0_ := Aside0.mk (Kd.V_elder' (by (with_reducible repeat (first | apply Kd.V_alloc | apply Kd.V_drewN | apply Kd.V_drew)); exact HO215.out) (Kd.S_base ho0) hb); have n1_ := Aside0.mk (Kd.V_elder' (by (with_reducible repeat (first | apply Kd.V_alloc | apply Kd.V_drewN | apply Kd.V_drew)); exact HO218.out) (Kd.S_base ho0) hb); have n2_ := Aside0.mk (Kd.V_elder' (by (with_reducible repeat (first | apply Kd.V_alloc | apply Kd.V_drewN | apply Kd.V_drew)); exact HO221.out) (Kd.S_base ho0) hb); have n3_ := Aside0.mk (Kd.S_lower ho0 (below_size (by repeat (first | (with_reducible first | exact HB.out | apply below_alloc | apply pw_below_drewN | apply below_drew1) | exact HB.out)))); have n4_ := Aside0.mk (below_step (by repeat (first | (with_reducible first | exact HB.out | apply below_alloc | apply pw_below_drewN | apply below_drew1) | exact HB.out)) hb); clear HO215; clear HO218; clear HO221; clear HB; have HO215 := n0_; have HO218 := n1_; have HO221 := n2_; have HO225 := n3_; have HB := n4_; clear n0_ n1_ n2_ n3_ n4_; (try clear hb); (try clear hb2); (try clear hk); (try clear hi); (try clear ho0))); go_upto_region 3 with (first | (go_at_call 4; (with_reducible refine (pollardlaw18_Cut.calls (fun k_ => k_ < w.heap.size) _ _ l0 t213 _ ?side1 A4.out).mono ?_); (case side1 => exact Kd.V_mk HC0.out (Kd.F_below (Kd.C_F Kd.heap_string HR0.out) (by repeat (first | (with_reducible first | exact HB.out | apply below_alloc | apply pw_below_drewN | apply below_drew1) | exact HB.out)))); rintro e w9 ⟨v214, rfl, ho0, hb⟩; have n0_ := Aside0.mk (Kd.V_lower (Kd.V_mono (ok' := fun k_ => True) ho0 (fun k_ hk_ => trivial)) (below_size (by repeat (first | (with_reducible first | exact HB.out | apply below_alloc | apply pw_below_drewN | apply below_drew1) | exact HB.out)))); have n1_ := Aside0.mk (below_step (by repeat (first | (with_reducible first | exact HB.out | apply below_alloc | apply pw_below_drewN | apply below_drew1) | exact HB.out)) hb); clear HB; have HO215 := n0_; have HB := n1_; clear n0_ n1_; (try clear hb); (try clear hb2); (try clear hk); (try clear hi); (try clear ho0)) | (go_at_call 4; (with_reducible refine (pollardlaw18_Cut.calls (fun k_ => k_ < w.heap.size) _ _ l1 t216 _ ?side1 A5.out).mono ?_); (case side1 => exact Kd.V_mk HC1.out (Kd.F_below (Kd.C_F Kd.heap_string HR1.out) (by repeat (first | (with_reducible first | exact HB.out | apply below_alloc | apply pw_below_drewN | apply below_drew1) | exact HB.out)))); rintro e w10 ⟨v217, rfl, ho0, hb⟩; have n0_ := Aside0.mk (Kd.V_below (by (with_reducible repeat (first | apply Kd.V_alloc | apply Kd.V_drewN | apply Kd.V_drew)); exact HO215.out) hb); have n1_ := Aside0.mk (Kd.V_lower (Kd.V_mono (ok' := fun k_ => True) ho0 (fun k_ hk_ => trivial)) (below_size (by repeat (first | (with_reducible first | exact HB.out | apply below_alloc | apply pw_below_drewN | apply below_drew1) | exact HB.out)))); have n2_ := Aside0.mk (below_step (by repeat (first | (with_reducible first | exact HB.out | apply below_alloc | apply pw_below_drewN | apply below_drew1) | exact HB.out)) hb); clear HO215; clear HB; have HO215 := n0_; have HO218 := n1_; have HB := n2_; clear n0_ n1_ n2_; (try clear hb); (try clear hb2); (try clear hk); (try clear hi); (try clear ho0)) | (go_at_call 4; (with_reducible refine (pollardlaw18_Cut.calls (fun k_ => k_ < w.heap.size) _ _ l2 t219 _ ?side1 A6.out).mono ?_); (case side1 => exact Kd.V_mk HC2.out (Kd.F_below (Kd.C_F Kd.heap_string HR2.out) (by repeat (first | (with_reducible first | exact HB.out | apply below_alloc | apply pw_below_drewN | apply below_drew1) | exact HB.out)))); rintro e w11 ⟨v220, rfl, ho0, hb⟩; have n0_ := Aside0.mk (Kd.V_below (by (with_reducible repeat (first | apply Kd.V_alloc | apply Kd.V_drewN | apply Kd.V_drew)); exact HO215.out) hb); have n1_ := Aside0.mk (Kd.V_below (by (with_reducible repeat (first | apply Kd.V_alloc | apply Kd.V_drewN | apply Kd.V_drew)); exact HO218.out) hb); have n2_ := Aside0.mk (Kd.V_lower (Kd.V_mono (ok' := fun k_ => True) ho0 (fun k_ hk_ => trivial)) (below_size (by repeat (first | (with_reducible first | exact HB.out | apply below_alloc | apply pw_below_drewN | apply below_drew1) | exact HB.out)))); have n3_ := Aside0.mk (below_step (by repeat (first | (with_reducible first | exact HB.out | apply below_alloc | apply pw_below_drewN | apply below_drew1) | exact HB.out)) hb); clear HO215; clear HO218; clear HB; have HO215 := n0_; have HO218 := n1_; have HO221 := n2_; have HB := n3_; clear n0_ n1_ n2_ n3_; (try clear hb); (try clear hb2); (try clear hk); (try clear hi); (try clear ho0); obtain ⟨Ao12, co12, eo12⟩ := Kd.V_slice HO215.out; subst eo12; obtain ⟨Ao13, co13, eo13⟩ := Kd.V_slice HO218.out; subst eo13; obtain ⟨Ao14, co14, eo14⟩ := Kd.V_slice HO221.out; subst eo14) | (go_at_call 5; (with_reducible refine (merge_Chunks.calls k _ _ t213 _ _ t216 _ _ t219 t222 t223 _ ?side1 ?side2 ?side3 ?side4 ?side5 ?side6 A7.out).mono ?_); (case side1 => repeat (first | exact (Kd.V_reads' HO215.out).2.2 | (with_reducible refine Kd.C_alloc ?_ _) | (with_reducible refine Kd.C_drewN ?_ _) | (with_reducible refine Kd.C_drew ?_))); (case side2 => exact (Kd.V_reads' HO215.out).2.1); (case side3 => repeat (first | exact (Kd.V_reads' HO218.out).2.2 | (with_reducible refine Kd.C_alloc ?_ _) | (with_reducible refine Kd.C_drewN ?_ _) | (with_reducible refine Kd.C_drew ?_))); (case side4 => exact (Kd.V_reads' HO218.out).2.1); (case side5 => repeat (first | exact (Kd.V_reads' HO221.out).2.2 | (with_reducible refine Kd.C_alloc ?_ _) | (with_reducible refine Kd.C_drewN ?_ _) | (with_reducible refine Kd.C_drew ?_))); (case side6 => exact (Kd.V_reads' HO221.out).2.1); rintro e w15 ⟨v224, rfl, ho0, hb⟩; have n0_ := Aside0.mk (Kd.V_elder' (by (with_reducible repeat (first | apply Kd.V_alloc | apply Kd.V_drewN | apply Kd.V_drew)); exact HO215.out) (Kd.S_base ho0) hb); have n1_ := Aside0.mk (Kd.V_elder' (by (with_reducible repeat (first | apply Kd.V_alloc | apply Kd.V_drewN | apply Kd.V_drew)); exact HO218.out) (Kd.S_base ho0) hb); have n2_ := Aside0.mk (Kd.V_elder' (by (with_reducible repeat (first | apply Kd.V_alloc | apply Kd.V_drewN | apply Kd.V_drew)); exact HO221.out) (Kd.S_base ho0) hb); have n3_ := Aside0.mk (Kd.S_lower ho0 (below_size (by repeat (first | (with_reducible first | exact HB.out | apply below_alloc | apply pw_below_drewN | apply below_drew1) | exact HB.out)))); have n4_ := Aside0.mk (below_step (by repeat (first | (with_reducible first | exact HB.out | apply below_alloc | apply pw_below_drewN | apply below_drew1) | exact HB.out)) hb); clear HO215; clear HO218; clear HO221; clear HB; have HO215 := n0_; have HO218 := n1_; have HO221 := n2_; have HO225 := n3_; have HB := n4_; clear n0_ n1_ n2_ n3_ n4_; (try clear hb); (try clear hb2); (try clear hk); (try clear hi); (try clear ho0))))
 (try simp only [Act.put, List.setIfInBounds_toArray, List.set_cons_zero, List.set_cons_succ])
 go_cut [35] (fun v35 wc => ∃ (kq : Nat) (x35_7 : Bool), v35 = .bool x35_7 ∧ Aside0 (pollardlaw19_MergeCovers.j0 kq t213 t216 t219 t222 x35_7 = some r) ∧ Aside0 (kq ≤ k) ∧ Aside0 (Kd.V Kd.string 9 wc w.heap.size (fun k_ => some k_ ≠ (v224 : Value).ownBlock) (.slice Ao12 t213.length co12) t213) ∧ Aside0 (Kd.V Kd.string 9 wc w.heap.size (fun k_ => some k_ ≠ (v224 : Value).ownBlock) (.slice Ao13 t216.length co13) t216) ∧ Aside0 (Kd.V Kd.string 9 wc w.heap.size (fun k_ => some k_ ≠ (v224 : Value).ownBlock) (.slice Ao14 t219.length co14) t219) ∧ Aside0 (Kd.S k30 30 wc w.heap.size (fun _ => True) v224 t222) ∧ Aside0 (Below w.heap.size w wc))
 case first =>
  have H := HC8.out
  clear HC8
  replace H := Option.bind_eq_some_iff.mp H
  obtain ⟨t226, A160, H⟩ := H
  replace H : (if t226 = true then (pollardlaw19_MergeCovers.j0 k t213 t216 t219 t222 (t223 != 0)) else (pollardlaw19_MergeCovers.j0 k t213 t216 t219 t222 true)) = some r := H
  have A16 := Aside0.mk A160
  clear A160
  by_cases c17 : t226 = true
  · subst c17
    have H1 : (pollardlaw19_MergeCovers.j0 k t213 t216 t219 t222 (t223 != 0)) = some r := by rw [if_pos rfl] at H; exact H
    clear H
    have H := H1
    clear H1
    have H' := Aside0.mk H
    clear H
    go_wp2_with (first | (go_at_call 6; (with_reducible refine (pollardlaw19_awake.calls k  true _ A16.out).mono ?_); rintro e w18 ⟨rfl, hb⟩; have n0_ := Aside0.mk (Kd.V_below (by (with_reducible repeat (first | apply Kd.V_alloc | apply Kd.V_drewN | apply Kd.V_drew)); exact HO215.out) hb); have n1_ := Aside0.mk (Kd.V_below (by (with_reducible repeat (first | apply Kd.V_alloc | apply Kd.V_drewN | apply Kd.V_drew)); exact HO218.out) hb); have n2_ := Aside0.mk (Kd.V_below (by (with_reducible repeat (first | apply Kd.V_alloc | apply Kd.V_drewN | apply Kd.V_drew)); exact HO221.out) hb); have n3_ := Aside0.mk (Kd.S_below (by (with_reducible repeat (first | apply Kd.S_alloc | apply Kd.S_drewN | apply Kd.S_drew)); exact HO225.out) hb); have n4_ := Aside0.mk (below_step (by repeat (first | (with_reducible first | exact HB.out | apply below_alloc | apply pw_below_drewN | apply below_drew1) | exact HB.out)) hb); clear HO215; clear HO218; clear HO221; clear HO225; clear HB; have HO215 := n0_; have HO218 := n1_; have HO221 := n2_; have HO225 := n3_; have HB := n4_; clear n0_ n1_ n2_ n3_ n4_; (try clear hb); (try clear hb2); (try clear hk); (try clear hi)))
    repeat (go_quiet (first | (go_at_call 6; (with_reducible refine (pollardlaw19_awake.calls k  true _ A16.out).mono ?_); rintro e w18 ⟨rfl, hb⟩; have n0_ := Aside0.mk (Kd.V_below (by (with_reducible repeat (first | apply Kd.V_alloc | apply Kd.V_drewN | apply Kd.V_drew)); exact HO215.out) hb); have n1_ := Aside0.mk (Kd.V_below (by (with_reducible repeat (first | apply Kd.V_alloc | apply Kd.V_drewN | apply Kd.V_drew)); exact HO218.out) hb); have n2_ := Aside0.mk (Kd.V_below (by (with_reducible repeat (first | apply Kd.V_alloc | apply Kd.V_drewN | apply Kd.V_drew)); exact HO221.out) hb); have n3_ := Aside0.mk (Kd.S_below (by (with_reducible repeat (first | apply Kd.S_alloc | apply Kd.S_drewN | apply Kd.S_drew)); exact HO225.out) hb); have n4_ := Aside0.mk (below_step (by repeat (first | (with_reducible first | exact HB.out | apply below_alloc | apply pw_below_drewN | apply below_drew1) | exact HB.out)) hb); clear HO215; clear HO218; clear HO221; clear HO225; clear HB; have HO215 := n0_; have HO218 := n1_; have HO221 := n2_; have HO225 := n3_; have HB := n4_; clear n0_ n1_ n2_ n3_ n4_; (try clear hb); (try clear hb2); (try clear hk); (try clear hi))); try go_wp2_with (first | (go_at_call 6; (with_reducible refine (pollardlaw19_awake.calls k  true _ A16.out).mono ?_); rintro e w18 ⟨rfl, hb⟩; have n0_ := Aside0.mk (Kd.V_below (by (with_reducible repeat (first | apply Kd.V_alloc | apply Kd.V_drewN | apply Kd.V_drew)); exact HO215.out) hb); have n1_ := Aside0.mk (Kd.V_below (by (with_reducible repeat (first | apply Kd.V_alloc | apply Kd.V_drewN | apply Kd.V_drew)); exact HO218.out) hb); have n2_ := Aside0.mk (Kd.V_below (by (with_reducible repeat (first | apply Kd.V_alloc | apply Kd.V_drewN | apply Kd.V_drew)); exact HO221.out) hb); have n3_ := Aside0.mk (Kd.S_below (by (with_reducible repeat (first | apply Kd.S_alloc | apply Kd.S_drewN | apply Kd.S_drew)); exact HO225.out) hb); have n4_ := Aside0.mk (below_step (by repeat (first | (with_reducible first | exact HB.out | apply below_alloc | apply pw_below_drewN | apply below_drew1) | exact HB.out)) hb); clear HO215; clear HO218; clear HO221; clear HO225; clear HB; have HO215 := n0_; have HO218 := n1_; have HO221 := n2_; have HO225 := n3_; have HB := n4_; clear n0_ n1_ n2_ n3_ n4_; (try clear hb); (try clear hb2); (try clear hk); (try clear hi))))
    go_meet
    case rel => exact ⟨_, ((t223 != 0)), (by first | rfl | (simp; done) | (simp [*]; done)), H', ⟨by first | omega | exact Nat.le_refl _⟩, ⟨by (with_reducible repeat (first | apply Kd.V_alloc | apply Kd.V_drewN | apply Kd.V_drew)); exact Kd.V_mono HO215.out (fun _ hk => hk.2)⟩, ⟨by (with_reducible repeat (first | apply Kd.V_alloc | apply Kd.V_drewN | apply Kd.V_drew)); exact Kd.V_mono HO218.out (fun _ hk => hk.2)⟩, ⟨by (with_reducible repeat (first | apply Kd.V_alloc | apply Kd.V_drewN | apply Kd.V_drew)); exact Kd.V_mono HO221.out (fun _ hk => hk.2)⟩, ⟨by (with_reducible repeat (first | apply Kd.S_alloc | apply Kd.S_drewN | apply Kd.S_drew)); exact HO225.out⟩, ⟨by repeat (first | (with_reducible first | exact HB.out | apply below_alloc | apply pw_below_drewN | apply below_drew1) | exact HB.out)⟩⟩
  · replace c17 := Bool.eq_false_iff.mpr c17
    subst c17
    have H1 : (pollardlaw19_MergeCovers.j0 k t213 t216 t219 t222 true) = some r := by rw [if_neg (show ¬ (false = true) by decide)] at H; exact H
    clear H
    have H := H1
    clear H1
    have H' := Aside0.mk H
    clear H
    go_wp2_with (first | (go_at_call 6; (with_reducible refine (pollardlaw19_awake.calls k  false _ A16.out).mono ?_); rintro e w19 ⟨rfl, hb⟩; have n0_ := Aside0.mk (Kd.V_below (by (with_reducible repeat (first | apply Kd.V_alloc | apply Kd.V_drewN | apply Kd.V_drew)); exact HO215.out) hb); have n1_ := Aside0.mk (Kd.V_below (by (with_reducible repeat (first | apply Kd.V_alloc | apply Kd.V_drewN | apply Kd.V_drew)); exact HO218.out) hb); have n2_ := Aside0.mk (Kd.V_below (by (with_reducible repeat (first | apply Kd.V_alloc | apply Kd.V_drewN | apply Kd.V_drew)); exact HO221.out) hb); have n3_ := Aside0.mk (Kd.S_below (by (with_reducible repeat (first | apply Kd.S_alloc | apply Kd.S_drewN | apply Kd.S_drew)); exact HO225.out) hb); have n4_ := Aside0.mk (below_step (by repeat (first | (with_reducible first | exact HB.out | apply below_alloc | apply pw_below_drewN | apply below_drew1) | exact HB.out)) hb); clear HO215; clear HO218; clear HO221; clear HO225; clear HB; have HO215 := n0_; have HO218 := n1_; have HO221 := n2_; have HO225 := n3_; have HB := n4_; clear n0_ n1_ n2_ n3_ n4_; (try clear hb); (try clear hb2); (try clear hk); (try clear hi)))
    repeat (go_quiet (first | (go_at_call 6; (with_reducible refine (pollardlaw19_awake.calls k  false _ A16.out).mono ?_); rintro e w19 ⟨rfl, hb⟩; have n0_ := Aside0.mk (Kd.V_below (by (with_reducible repeat (first | apply Kd.V_alloc | apply Kd.V_drewN | apply Kd.V_drew)); exact HO215.out) hb); have n1_ := Aside0.mk (Kd.V_below (by (with_reducible repeat (first | apply Kd.V_alloc | apply Kd.V_drewN | apply Kd.V_drew)); exact HO218.out) hb); have n2_ := Aside0.mk (Kd.V_below (by (with_reducible repeat (first | apply Kd.V_alloc | apply Kd.V_drewN | apply Kd.V_drew)); exact HO221.out) hb); have n3_ := Aside0.mk (Kd.S_below (by (with_reducible repeat (first | apply Kd.S_alloc | apply Kd.S_drewN | apply Kd.S_drew)); exact HO225.out) hb); have n4_ := Aside0.mk (below_step (by repeat (first | (with_reducible first | exact HB.out | apply below_alloc | apply pw_below_drewN | apply below_drew1) | exact HB.out)) hb); clear HO215; clear HO218; clear HO221; clear HO225; clear HB; have HO215 := n0_; have HO218 := n1_; have HO221 := n2_; have HO225 := n3_; have HB := n4_; clear n0_ n1_ n2_ n3_ n4_; (try clear hb); (try clear hb2); (try clear hk); (try clear hi))); try go_wp2_with (first | (go_at_call 6; (with_reducible refine (pollardlaw19_awake.calls k  false _ A16.out).mono ?_); rintro e w19 ⟨rfl, hb⟩; have n0_ := Aside0.mk (Kd.V_below (by (with_reducible repeat (first | apply Kd.V_alloc | apply Kd.V_drewN | apply Kd.V_drew)); exact HO215.out) hb); have n1_ := Aside0.mk (Kd.V_below (by (with_reducible repeat (first | apply Kd.V_alloc | apply Kd.V_drewN | apply Kd.V_drew)); exact HO218.out) hb); have n2_ := Aside0.mk (Kd.V_below (by (with_reducible repeat (first | apply Kd.V_alloc | apply Kd.V_drewN | apply Kd.V_drew)); exact HO221.out) hb); have n3_ := Aside0.mk (Kd.S_below (by (with_reducible repeat (first | apply Kd.S_alloc | apply Kd.S_drewN | apply Kd.S_drew)); exact HO225.out) hb); have n4_ := Aside0.mk (below_step (by repeat (first | (with_reducible first | exact HB.out | apply below_alloc | apply pw_below_drewN | apply below_drew1) | exact HB.out)) hb); clear HO215; clear HO218; clear HO221; clear HO225; clear HB; have HO215 := n0_; have HO218 := n1_; have HO221 := n2_; have HO225 := n3_; have HB := n4_; clear n0_ n1_ n2_ n3_ n4_; (try clear hb); (try clear hb2); (try clear hk); (try clear hi))))
    go_meet
    case rel => exact ⟨_, (true), (by first | rfl | (simp; done) | (simp [*]; done)), H', ⟨by first | omega | exact Nat.le_refl _⟩, ⟨by (with_reducible repeat (first | apply Kd.V_alloc | apply Kd.V_drewN | apply Kd.V_drew)); exact Kd.V_mono HO215.out (fun _ hk => hk.2)⟩, ⟨by (with_reducible repeat (first | apply Kd.V_alloc | apply Kd.V_drewN | apply Kd.V_drew)); exact Kd.V_mono HO218.out (fun _ hk => hk.2)⟩, ⟨by (with_reducible repeat (first | apply Kd.V_alloc | apply Kd.V_drewN | apply Kd.V_drew)); exact Kd.V_mono HO221.out (fun _ hk => hk.2)⟩, ⟨by (with_reducible repeat (first | apply Kd.S_alloc | apply Kd.S_drewN | apply Kd.S_drew)); exact HO225.out⟩, ⟨by repeat (first | (with_reducible first | exact HB.out | apply below_alloc | apply pw_below_drewN | apply below_drew1) | exact HB.out)⟩⟩
 case rest =>
  clear HC8
  try clear c1
  try clear c2
  try clear p2
  try clear c3
  try clear c17
  obtain ⟨kq, x35_7, rfl, HA, HJ7, HO_7, HO_8, HO_9, HO_10, HB⟩ := hcut
  cases kq with
  | zero => exact absurd HA.out (by simp [pollardlaw19_MergeCovers.j0])
  | succ kj7 =>
   have H := HA.out
   clear HA
   simp only [pollardlaw19_MergeCovers.j0] at H
   by_cases c20 : x35_7 = true
   · subst c20
     have H1 : (none) = some r := by rw [if_pos rfl] at H; exact H
     clear H
     have H := H1
     clear H1
     exact absurd H (by simp)
   ·
    replace c20 := Bool.eq_false_iff.mpr c20
    subst c20
    have H1 : (pollardlaw19_MergeCovers.l0 kj7 t213 t216 t219 t222 (([] : List ByteArray)) (([] : List ByteArray)) (([] : List ByteArray)) 0) = some r := by rw [if_neg (show ¬ (false = true) by decide)] at H; exact H
    clear H
    have H := H1
    clear H1
    obtain ⟨y227, hy227⟩ : ∃ y_ : List ByteArray, y_ = (([] : List ByteArray)) := ⟨_, rfl⟩
    replace H : (pollardlaw19_MergeCovers.l0 kj7 t213 t216 t219 t222 y227 (([] : List ByteArray)) (([] : List ByteArray)) 0) = some r := by first | (rw [hy227]; with_reducible exact H) | (have H2_ := (Option.bind_some _ _).symm.trans H; rw [hy227]; with_reducible exact H2_) | (have H2_ := (Option.bind_some _ _).symm.trans H; with_reducible exact H2_) | with_reducible exact H | (rw [hy227]; exact H) | exact H
    have Ny227 := Aside0.mk hy227
    clear hy227
    obtain ⟨y230, hy230⟩ : ∃ y_ : List ByteArray, y_ = (([] : List ByteArray)) := ⟨_, rfl⟩
    replace H : (pollardlaw19_MergeCovers.l0 kj7 t213 t216 t219 t222 y227 y230 (([] : List ByteArray)) 0) = some r := by first | (rw [hy230]; with_reducible exact H) | (have H2_ := (Option.bind_some _ _).symm.trans H; rw [hy230]; with_reducible exact H2_) | (have H2_ := (Option.bind_some _ _).symm.trans H; with_reducible exact H2_) | with_reducible exact H | (rw [hy230]; exact H) | exact H
    have Ny230 := Aside0.mk hy230
    clear hy230
    obtain ⟨y233, hy233⟩ : ∃ y_ : List ByteArray, y_ = (([] : List ByteArray)) := ⟨_, rfl⟩
    replace H : (pollardlaw19_MergeCovers.l0 kj7 t213 t216 t219 t222 y227 y230 y233 0) = some r := by first | (rw [hy233]; with_reducible exact H) | (have H2_ := (Option.bind_some _ _).symm.trans H; rw [hy233]; with_reducible exact H2_) | (have H2_ := (Option.bind_some _ _).symm.trans H; with_reducible exact H2_) | with_reducible exact H | (rw [hy233]; exact H) | exact H
    have Ny233 := Aside0.mk hy233
    clear hy233
    have H' := Aside0.mk H
    clear H
    go_wp2_with (first | ((with_reducible refine gate_dst (N := 36) rfl ?_); refine Kd.R_lit Kd.string _ 9 ?hg (N := 36) ?hd (xs := ([] : List ByteArray)) (inner := []) (ok := fun _ => True) (okp := fun _ => True) ?hr ?hp (fun _ hk => hk) trivial (Below.refl _ _) (Nat.le_refl _) (by simp) ?_; (case hd => rfl); (case hg => rfl); (case hr => first | (go_simp; done) | (go_simp; rfl) | (go_simp; simp only [show ∀ x_ : Int, IntKind.u8.wrap x_ = x_ % 256 from fun _ => rfl, Int.add_emod_emod, Int.emod_add_emod, Int.emod_emod]; done)); (case hp => exact (Reps.none _ _)); intro v228 w21 ho22 hb hg_ hnew_; clear hg_ hnew_; (first | rw [← Ny227.out] at ho22 | (simp only [Int.reduceToNat] at ho22; rw [← Ny227.out] at ho22)); have n0_ := Aside0.mk (Kd.V_elder' (by (with_reducible repeat (first | apply Kd.V_alloc | apply Kd.V_drewN | apply Kd.V_drew)); exact HO_7.out) (Kd.R_base ho22) hb); have n1_ := Aside0.mk (Kd.V_elder' (by (with_reducible repeat (first | apply Kd.V_alloc | apply Kd.V_drewN | apply Kd.V_drew)); exact HO_8.out) (Kd.R_base ho22) hb); have n2_ := Aside0.mk (Kd.V_elder' (by (with_reducible repeat (first | apply Kd.V_alloc | apply Kd.V_drewN | apply Kd.V_drew)); exact HO_9.out) (Kd.R_base ho22) hb); have n3_ := Aside0.mk (Kd.S_elder' (by (with_reducible repeat (first | apply Kd.S_alloc | apply Kd.S_drewN | apply Kd.S_drew)); exact HO_10.out) (Kd.R_base ho22) hb); have n4_ := Aside0.mk (Kd.R_lower ho22 (below_size (by repeat (first | (with_reducible first | exact HB.out | apply below_alloc | apply pw_below_drewN | apply below_drew1) | exact HB.out)))); have n5_ := Aside0.mk (below_step (by repeat (first | (with_reducible first | exact HB.out | apply below_alloc | apply pw_below_drewN | apply below_drew1) | exact HB.out)) hb); clear HO_7; clear HO_8; clear HO_9; clear HO_10; clear HB; have HO_7 := n0_; have HO_8 := n1_; have HO_9 := n2_; have HO_10 := n3_; have HO229 := n4_; have HB := n5_; clear n0_ n1_ n2_ n3_ n4_ n5_; clear hb ho22) | ((with_reducible refine gate_dst (N := 37) rfl ?_); refine Kd.R_lit Kd.string _ 9 ?hg (N := 37) ?hd (xs := ([] : List ByteArray)) (inner := []) (ok := fun _ => True) (okp := fun _ => True) ?hr ?hp (fun _ hk => hk) trivial (Below.refl _ _) (Nat.le_refl _) (by simp) ?_; (case hd => rfl); (case hg => rfl); (case hr => first | (go_simp; done) | (go_simp; rfl) | (go_simp; simp only [show ∀ x_ : Int, IntKind.u8.wrap x_ = x_ % 256 from fun _ => rfl, Int.add_emod_emod, Int.emod_add_emod, Int.emod_emod]; done)); (case hp => exact (Reps.none _ _)); intro v231 w23 ho24 hb hg_ hnew_; clear hg_ hnew_; (first | rw [← Ny230.out] at ho24 | (simp only [Int.reduceToNat] at ho24; rw [← Ny230.out] at ho24)); have n0_ := Aside0.mk (Kd.V_elder' (by (with_reducible repeat (first | apply Kd.V_alloc | apply Kd.V_drewN | apply Kd.V_drew)); exact HO_7.out) (Kd.R_base ho24) hb); have n1_ := Aside0.mk (Kd.V_elder' (by (with_reducible repeat (first | apply Kd.V_alloc | apply Kd.V_drewN | apply Kd.V_drew)); exact HO_8.out) (Kd.R_base ho24) hb); have n2_ := Aside0.mk (Kd.V_elder' (by (with_reducible repeat (first | apply Kd.V_alloc | apply Kd.V_drewN | apply Kd.V_drew)); exact HO_9.out) (Kd.R_base ho24) hb); have n3_ := Aside0.mk (Kd.S_elder' (by (with_reducible repeat (first | apply Kd.S_alloc | apply Kd.S_drewN | apply Kd.S_drew)); exact HO_10.out) (Kd.R_base ho24) hb); have n4_ := Aside0.mk (Kd.R_elder' (by (with_reducible repeat (first | apply Kd.R_alloc | apply Kd.R_drewN | apply Kd.R_drew)); exact HO229.out) (Kd.R_base ho24) hb); have n5_ := Aside0.mk (Kd.R_lower (Kd.R_new' ho24 (Kd.R_lt (by (with_reducible repeat (first | apply Kd.R_alloc | apply Kd.R_drewN | apply Kd.R_drew)); exact HO229.out))) (below_size (by repeat (first | (with_reducible first | exact HB.out | apply below_alloc | apply pw_below_drewN | apply below_drew1) | exact HB.out)))); have n6_ := Aside0.mk (below_step (by repeat (first | (with_reducible first | exact HB.out | apply below_alloc | apply pw_below_drewN | apply below_drew1) | exact HB.out)) hb); clear HO_7; clear HO_8; clear HO_9; clear HO_10; clear HO229; clear HB; have HO_7 := n0_; have HO_8 := n1_; have HO_9 := n2_; have HO_10 := n3_; have HO229 := n4_; have HO232 := n5_; have HB := n6_; clear n0_ n1_ n2_ n3_ n4_ n5_ n6_; clear hb ho24) | ((with_reducible refine gate_dst (N := 38) rfl ?_); refine Kd.R_lit Kd.string _ 9 ?hg (N := 38) ?hd (xs := ([] : List ByteArray)) (inner := []) (ok := fun _ => True) (okp := fun _ => True) ?hr ?hp (fun _ hk => hk) trivial (Below.refl _ _) (Nat.le_refl _) (by simp) ?_; (case hd => rfl); (case hg => rfl); (case hr => first | (go_simp; done) | (go_simp; rfl) | (go_simp; simp only [show ∀ x_ : Int, IntKind.u8.wrap x_ = x_ % 256 from fun _ => rfl, Int.add_emod_emod, Int.emod_add_emod, Int.emod_emod]; done)); (case hp => exact (Reps.none _ _)); intro v234 w25 ho26 hb hg_ hnew_; clear hg_ hnew_; (first | rw [← Ny233.out] at ho26 | (simp only [Int.reduceToNat] at ho26; rw [← Ny233.out] at ho26)); have n0_ := Aside0.mk (Kd.V_elder' (by (with_reducible repeat (first | apply Kd.V_alloc | apply Kd.V_drewN | apply Kd.V_drew)); exact HO_7.out) (Kd.R_base ho26) hb); have n1_ := Aside0.mk (Kd.V_elder' (by (with_reducible repeat (first | apply Kd.V_alloc | apply Kd.V_drewN | apply Kd.V_drew)); exact HO_8.out) (Kd.R_base ho26) hb); have n2_ := Aside0.mk (Kd.V_elder' (by (with_reducible repeat (first | apply Kd.V_alloc | apply Kd.V_drewN | apply Kd.V_drew)); exact HO_9.out) (Kd.R_base ho26) hb); have n3_ := Aside0.mk (Kd.S_elder' (by (with_reducible repeat (first | apply Kd.S_alloc | apply Kd.S_drewN | apply Kd.S_drew)); exact HO_10.out) (Kd.R_base ho26) hb); have n4_ := Aside0.mk (Kd.R_elder' (by (with_reducible repeat (first | apply Kd.R_alloc | apply Kd.R_drewN | apply Kd.R_drew)); exact HO229.out) (Kd.R_base ho26) hb); have n5_ := Aside0.mk (Kd.R_elder' (by (with_reducible repeat (first | apply Kd.R_alloc | apply Kd.R_drewN | apply Kd.R_drew)); exact HO232.out) (Kd.R_base ho26) hb); have n6_ := Aside0.mk (Kd.R_lower (Kd.R_new' (Kd.R_new' ho26 (Kd.R_lt (by (with_reducible repeat (first | apply Kd.R_alloc | apply Kd.R_drewN | apply Kd.R_drew)); exact HO229.out))) (Kd.R_lt (by (with_reducible repeat (first | apply Kd.R_alloc | apply Kd.R_drewN | apply Kd.R_drew)); exact HO232.out))) (below_size (by repeat (first | (with_reducible first | exact HB.out | apply below_alloc | apply pw_below_drewN | apply below_drew1) | exact HB.out)))); have n7_ := Aside0.mk (below_step (by repeat (first | (with_reducible first | exact HB.out | apply below_alloc | apply pw_below_drewN | apply below_drew1) | exact HB.out)) hb); clear HO_7; clear HO_8; clear HO_9; clear HO_10; clear HO229; clear HO232; clear HB; have HO_7 := n0_; have HO_8 := n1_; have HO_9 := n2_; have HO_10 := n3_; have HO229 := n4_; have HO232 := n5_; have HO235 := n6_; have HB := n7_; clear n0_ n1_ n2_ n3_ n4_ n5_ n6_ n7_; clear hb ho26))
    repeat (go_quiet (first | ((with_reducible refine gate_dst (N := 36) rfl ?_); refine Kd.R_lit Kd.string _ 9 ?hg (N := 36) ?hd (xs := ([] : List ByteArray)) (inner := []) (ok := fun _ => True) (okp := fun _ => True) ?hr ?hp (fun _ hk => hk) trivial (Below.refl _ _) (Nat.le_refl _) (by simp) ?_; (case hd => rfl); (case hg => rfl); (case hr => first | (go_simp; done) | (go_simp; rfl) | (go_simp; simp only [show ∀ x_ : Int, IntKind.u8.wrap x_ = x_ % 256 from fun _ => rfl, Int.add_emod_emod, Int.emod_add_emod, Int.emod_emod]; done)); (case hp => exact (Reps.none _ _)); intro v228 w21 ho22 hb hg_ hnew_; clear hg_ hnew_; (first | rw [← Ny227.out] at ho22 | (simp only [Int.reduceToNat] at ho22; rw [← Ny227.out] at ho22)); have n0_ := Aside0.mk (Kd.V_elder' (by (with_reducible repeat (first | apply Kd.V_alloc | apply Kd.V_drewN | apply Kd.V_drew)); exact HO_7.out) (Kd.R_base ho22) hb); have n1_ := Aside0.mk (Kd.V_elder' (by (with_reducible repeat (first | apply Kd.V_alloc | apply Kd.V_drewN | apply Kd.V_drew)); exact HO_8.out) (Kd.R_base ho22) hb); have n2_ := Aside0.mk (Kd.V_elder' (by (with_reducible repeat (first | apply Kd.V_alloc | apply Kd.V_drewN | apply Kd.V_drew)); exact HO_9.out) (Kd.R_base ho22) hb); have n3_ := Aside0.mk (Kd.S_elder' (by (with_reducible repeat (first | apply Kd.S_alloc | apply Kd.S_drewN | apply Kd.S_drew)); exact HO_10.out) (Kd.R_base ho22) hb); have n4_ := Aside0.mk (Kd.R_lower ho22 (below_size (by repeat (first | (with_reducible first | exact HB.out | apply below_alloc | apply pw_below_drewN | apply below_drew1) | exact HB.out)))); have n5_ := Aside0.mk (below_step (by repeat (first | (with_reducible first | exact HB.out | apply below_alloc | apply pw_below_drewN | apply below_drew1) | exact HB.out)) hb); clear HO_7; clear HO_8; clear HO_9; clear HO_10; clear HB; have HO_7 := n0_; have HO_8 := n1_; have HO_9 := n2_; have HO_10 := n3_; have HO229 := n4_; have HB := n5_; clear n0_ n1_ n2_ n3_ n4_ n5_; clear hb ho22) | ((with_reducible refine gate_dst (N := 37) rfl ?_); refine Kd.R_lit Kd.string _ 9 ?hg (N := 37) ?hd (xs := ([] : List ByteArray)) (inner := []) (ok := fun _ => True) (okp := fun _ => True) ?hr ?hp (fun _ hk => hk) trivial (Below.refl _ _) (Nat.le_refl _) (by simp) ?_; (case hd => rfl); (case hg => rfl); (case hr => first | (go_simp; done) | (go_simp; rfl) | (go_simp; simp only [show ∀ x_ : Int, IntKind.u8.wrap x_ = x_ % 256 from fun _ => rfl, Int.add_emod_emod, Int.emod_add_emod, Int.emod_emod]; done)); (case hp => exact (Reps.none _ _)); intro v231 w23 ho24 hb hg_ hnew_; clear hg_ hnew_; (first | rw [← Ny230.out] at ho24 | (simp only [Int.reduceToNat] at ho24; rw [← Ny230.out] at ho24)); have n0_ := Aside0.mk (Kd.V_elder' (by (with_reducible repeat (first | apply Kd.V_alloc | apply Kd.V_drewN | apply Kd.V_drew)); exact HO_7.out) (Kd.R_base ho24) hb); have n1_ := Aside0.mk (Kd.V_elder' (by (with_reducible repeat (first | apply Kd.V_alloc | apply Kd.V_drewN | apply Kd.V_drew)); exact HO_8.out) (Kd.R_base ho24) hb); have n2_ := Aside0.mk (Kd.V_elder' (by (with_reducible repeat (first | apply Kd.V_alloc | apply Kd.V_drewN | apply Kd.V_drew)); exact HO_9.out) (Kd.R_base ho24) hb); have n3_ := Aside0.mk (Kd.S_elder' (by (with_reducible repeat (first | apply Kd.S_alloc | apply Kd.S_drewN | apply Kd.S_drew)); exact HO_10.out) (Kd.R_base ho24) hb); have n4_ := Aside0.mk (Kd.R_elder' (by (with_reducible repeat (first | apply Kd.R_alloc | apply Kd.R_drewN | apply Kd.R_drew)); exact HO229.out) (Kd.R_base ho24) hb); have n5_ := Aside0.mk (Kd.R_lower (Kd.R_new' ho24 (Kd.R_lt (by (with_reducible repeat (first | apply Kd.R_alloc | apply Kd.R_drewN | apply Kd.R_drew)); exact HO229.out))) (below_size (by repeat (first | (with_reducible first | exact HB.out | apply below_alloc | apply pw_below_drewN | apply below_drew1) | exact HB.out)))); have n6_ := Aside0.mk (below_step (by repeat (first | (with_reducible first | exact HB.out | apply below_alloc | apply pw_below_drewN | apply below_drew1) | exact HB.out)) hb); clear HO_7; clear HO_8; clear HO_9; clear HO_10; clear HO229; clear HB; have HO_7 := n0_; have HO_8 := n1_; have HO_9 := n2_; have HO_10 := n3_; have HO229 := n4_; have HO232 := n5_; have HB := n6_; clear n0_ n1_ n2_ n3_ n4_ n5_ n6_; clear hb ho24) | ((with_reducible refine gate_dst (N := 38) rfl ?_); refine Kd.R_lit Kd.string _ 9 ?hg (N := 38) ?hd (xs := ([] : List ByteArray)) (inner := []) (ok := fun _ => True) (okp := fun _ => True) ?hr ?hp (fun _ hk => hk) trivial (Below.refl _ _) (Nat.le_refl _) (by simp) ?_; (case hd => rfl); (case hg => rfl); (case hr => first | (go_simp; done) | (go_simp; rfl) | (go_simp; simp only [show ∀ x_ : Int, IntKind.u8.wrap x_ = x_ % 256 from fun _ => rfl, Int.add_emod_emod, Int.emod_add_emod, Int.emod_emod]; done)); (case hp => exact (Reps.none _ _)); intro v234 w25 ho26 hb hg_ hnew_; clear hg_ hnew_; (first | rw [← Ny233.out] at ho26 | (simp only [Int.reduceToNat] at ho26; rw [← Ny233.out] at ho26)); have n0_ := Aside0.mk (Kd.V_elder' (by (with_reducible repeat (first | apply Kd.V_alloc | apply Kd.V_drewN | apply Kd.V_drew)); exact HO_7.out) (Kd.R_base ho26) hb); have n1_ := Aside0.mk (Kd.V_elder' (by (with_reducible repeat (first | apply Kd.V_alloc | apply Kd.V_drewN | apply Kd.V_drew)); exact HO_8.out) (Kd.R_base ho26) hb); have n2_ := Aside0.mk (Kd.V_elder' (by (with_reducible repeat (first | apply Kd.V_alloc | apply Kd.V_drewN | apply Kd.V_drew)); exact HO_9.out) (Kd.R_base ho26) hb); have n3_ := Aside0.mk (Kd.S_elder' (by (with_reducible repeat (first | apply Kd.S_alloc | apply Kd.S_drewN | apply Kd.S_drew)); exact HO_10.out) (Kd.R_base ho26) hb); have n4_ := Aside0.mk (Kd.R_elder' (by (with_reducible repeat (first | apply Kd.R_alloc | apply Kd.R_drewN | apply Kd.R_drew)); exact HO229.out) (Kd.R_base ho26) hb); have n5_ := Aside0.mk (Kd.R_elder' (by (with_reducible repeat (first | apply Kd.R_alloc | apply Kd.R_drewN | apply Kd.R_drew)); exact HO232.out) (Kd.R_base ho26) hb); have n6_ := Aside0.mk (Kd.R_lower (Kd.R_new' (Kd.R_new' ho26 (Kd.R_lt (by (with_reducible repeat (first | apply Kd.R_alloc | apply Kd.R_drewN | apply Kd.R_drew)); exact HO229.out))) (Kd.R_lt (by (with_reducible repeat (first | apply Kd.R_alloc | apply Kd.R_drewN | apply Kd.R_drew)); exact HO232.out))) (below_size (by repeat (first | (with_reducible first | exact HB.out | apply below_alloc | apply pw_below_drewN | apply below_drew1) | exact HB.out)))); have n7_ := Aside0.mk (below_step (by repeat (first | (with_reducible first | exact HB.out | apply below_alloc | apply pw_below_drewN | apply below_drew1) | exact HB.out)) hb); clear HO_7; clear HO_8; clear HO_9; clear HO_10; clear HO229; clear HO232; clear HB; have HO_7 := n0_; have HO_8 := n1_; have HO_9 := n2_; have HO_10 := n3_; have HO229 := n4_; have HO232 := n5_; have HO235 := n6_; have HB := n7_; clear n0_ n1_ n2_ n3_ n4_ n5_ n6_ n7_; clear hb ho26)); try go_wp2_with (first | ((with_reducible refine gate_dst (N := 36) rfl ?_); refine Kd.R_lit Kd.string _ 9 ?hg (N := 36) ?hd (xs := ([] : List ByteArray)) (inner := []) (ok := fun _ => True) (okp := fun _ => True) ?hr ?hp (fun _ hk => hk) trivial (Below.refl _ _) (Nat.le_refl _) (by simp) ?_; (case hd => rfl); (case hg => rfl); (case hr => first | (go_simp; done) | (go_simp; rfl) | (go_simp; simp only [show ∀ x_ : Int, IntKind.u8.wrap x_ = x_ % 256 from fun _ => rfl, Int.add_emod_emod, Int.emod_add_emod, Int.emod_emod]; done)); (case hp => exact (Reps.none _ _)); intro v228 w21 ho22 hb hg_ hnew_; clear hg_ hnew_; (first | rw [← Ny227.out] at ho22 | (simp only [Int.reduceToNat] at ho22; rw [← Ny227.out] at ho22)); have n0_ := Aside0.mk (Kd.V_elder' (by (with_reducible repeat (first | apply Kd.V_alloc | apply Kd.V_drewN | apply Kd.V_drew)); exact HO_7.out) (Kd.R_base ho22) hb); have n1_ := Aside0.mk (Kd.V_elder' (by (with_reducible repeat (first | apply Kd.V_alloc | apply Kd.V_drewN | apply Kd.V_drew)); exact HO_8.out) (Kd.R_base ho22) hb); have n2_ := Aside0.mk (Kd.V_elder' (by (with_reducible repeat (first | apply Kd.V_alloc | apply Kd.V_drewN | apply Kd.V_drew)); exact HO_9.out) (Kd.R_base ho22) hb); have n3_ := Aside0.mk (Kd.S_elder' (by (with_reducible repeat (first | apply Kd.S_alloc | apply Kd.S_drewN | apply Kd.S_drew)); exact HO_10.out) (Kd.R_base ho22) hb); have n4_ := Aside0.mk (Kd.R_lower ho22 (below_size (by repeat (first | (with_reducible first | exact HB.out | apply below_alloc | apply pw_below_drewN | apply below_drew1) | exact HB.out)))); have n5_ := Aside0.mk (below_step (by repeat (first | (with_reducible first | exact HB.out | apply below_alloc | apply pw_below_drewN | apply below_drew1) | exact HB.out)) hb); clear HO_7; clear HO_8; clear HO_9; clear HO_10; clear HB; have HO_7 := n0_; have HO_8 := n1_; have HO_9 := n2_; have HO_10 := n3_; have HO229 := n4_; have HB := n5_; clear n0_ n1_ n2_ n3_ n4_ n5_; clear hb ho22) | ((with_reducible refine gate_dst (N := 37) rfl ?_); refine Kd.R_lit Kd.string _ 9 ?hg (N := 37) ?hd (xs := ([] : List ByteArray)) (inner := []) (ok := fun _ => True) (okp := fun _ => True) ?hr ?hp (fun _ hk => hk) trivial (Below.refl _ _) (Nat.le_refl _) (by simp) ?_; (case hd => rfl); (case hg => rfl); (case hr => first | (go_simp; done) | (go_simp; rfl) | (go_simp; simp only [show ∀ x_ : Int, IntKind.u8.wrap x_ = x_ % 256 from fun _ => rfl, Int.add_emod_emod, Int.emod_add_emod, Int.emod_emod]; done)); (case hp => exact (Reps.none _ _)); intro v231 w23 ho24 hb hg_ hnew_; clear hg_ hnew_; (first | rw [← Ny230.out] at ho24 | (simp only [Int.reduceToNat] at ho24; rw [← Ny230.out] at ho24)); have n0_ := Aside0.mk (Kd.V_elder' (by (with_reducible repeat (first | apply Kd.V_alloc | apply Kd.V_drewN | apply Kd.V_drew)); exact HO_7.out) (Kd.R_base ho24) hb); have n1_ := Aside0.mk (Kd.V_elder' (by (with_reducible repeat (first | apply Kd.V_alloc | apply Kd.V_drewN | apply Kd.V_drew)); exact HO_8.out) (Kd.R_base ho24) hb); have n2_ := Aside0.mk (Kd.V_elder' (by (with_reducible repeat (first | apply Kd.V_alloc | apply Kd.V_drewN | apply Kd.V_drew)); exact HO_9.out) (Kd.R_base ho24) hb); have n3_ := Aside0.mk (Kd.S_elder' (by (with_reducible repeat (first | apply Kd.S_alloc | apply Kd.S_drewN | apply Kd.S_drew)); exact HO_10.out) (Kd.R_base ho24) hb); have n4_ := Aside0.mk (Kd.R_elder' (by (with_reducible repeat (first | apply Kd.R_alloc | apply Kd.R_drewN | apply Kd.R_drew)); exact HO229.out) (Kd.R_base ho24) hb); have n5_ := Aside0.mk (Kd.R_lower (Kd.R_new' ho24 (Kd.R_lt (by (with_reducible repeat (first | apply Kd.R_alloc | apply Kd.R_drewN | apply Kd.R_drew)); exact HO229.out))) (below_size (by repeat (first | (with_reducible first | exact HB.out | apply below_alloc | apply pw_below_drewN | apply below_drew1) | exact HB.out)))); have n6_ := Aside0.mk (below_step (by repeat (first | (with_reducible first | exact HB.out | apply below_alloc | apply pw_below_drewN | apply below_drew1) | exact HB.out)) hb); clear HO_7; clear HO_8; clear HO_9; clear HO_10; clear HO229; clear HB; have HO_7 := n0_; have HO_8 := n1_; have HO_9 := n2_; have HO_10 := n3_; have HO229 := n4_; have HO232 := n5_; have HB := n6_; clear n0_ n1_ n2_ n3_ n4_ n5_ n6_; clear hb ho24) | ((with_reducible refine gate_dst (N := 38) rfl ?_); refine Kd.R_lit Kd.string _ 9 ?hg (N := 38) ?hd (xs := ([] : List ByteArray)) (inner := []) (ok := fun _ => True) (okp := fun _ => True) ?hr ?hp (fun _ hk => hk) trivial (Below.refl _ _) (Nat.le_refl _) (by simp) ?_; (case hd => rfl); (case hg => rfl); (case hr => first | (go_simp; done) | (go_simp; rfl) | (go_simp; simp only [show ∀ x_ : Int, IntKind.u8.wrap x_ = x_ % 256 from fun _ => rfl, Int.add_emod_emod, Int.emod_add_emod, Int.emod_emod]; done)); (case hp => exact (Reps.none _ _)); intro v234 w25 ho26 hb hg_ hnew_; clear hg_ hnew_; (first | rw [← Ny233.out] at ho26 | (simp only [Int.reduceToNat] at ho26; rw [← Ny233.out] at ho26)); have n0_ := Aside0.mk (Kd.V_elder' (by (with_reducible repeat (first | apply Kd.V_alloc | apply Kd.V_drewN | apply Kd.V_drew)); exact HO_7.out) (Kd.R_base ho26) hb); have n1_ := Aside0.mk (Kd.V_elder' (by (with_reducible repeat (first | apply Kd.V_alloc | apply Kd.V_drewN | apply Kd.V_drew)); exact HO_8.out) (Kd.R_base ho26) hb); have n2_ := Aside0.mk (Kd.V_elder' (by (with_reducible repeat (first | apply Kd.V_alloc | apply Kd.V_drewN | apply Kd.V_drew)); exact HO_9.out) (Kd.R_base ho26) hb); have n3_ := Aside0.mk (Kd.S_elder' (by (with_reducible repeat (first | apply Kd.S_alloc | apply Kd.S_drewN | apply Kd.S_drew)); exact HO_10.out) (Kd.R_base ho26) hb); have n4_ := Aside0.mk (Kd.R_elder' (by (with_reducible repeat (first | apply Kd.R_alloc | apply Kd.R_drewN | apply Kd.R_drew)); exact HO229.out) (Kd.R_base ho26) hb); have n5_ := Aside0.mk (Kd.R_elder' (by (with_reducible repeat (first | apply Kd.R_alloc | apply Kd.R_drewN | apply Kd.R_drew)); exact HO232.out) (Kd.R_base ho26) hb); have n6_ := Aside0.mk (Kd.R_lower (Kd.R_new' (Kd.R_new' ho26 (Kd.R_lt (by (with_reducible repeat (first | apply Kd.R_alloc | apply Kd.R_drewN | apply Kd.R_drew)); exact HO229.out))) (Kd.R_lt (by (with_reducible repeat (first | apply Kd.R_alloc | apply Kd.R_drewN | apply Kd.R_drew)); exact HO232.out))) (below_size (by repeat (first | (with_reducible first | exact HB.out | apply below_alloc | apply pw_below_drewN | apply below_drew1) | exact HB.out)))); have n7_ := Aside0.mk (below_step (by repeat (first | (with_reducible first | exact HB.out | apply below_alloc | apply pw_below_drewN | apply below_drew1) | exact HB.out)) hb); clear HO_7; clear HO_8; clear HO_9; clear HO_10; clear HO229; clear HO232; clear HB; have HO_7 := n0_; have HO_8 := n1_; have HO_9 := n2_; have HO_10 := n3_; have HO229 := n4_; have HO232 := n5_; have HO235 := n6_; have HB := n7_; clear n0_ n1_ n2_ n3_ n4_ n5_ n6_ n7_; clear hb ho26)))
    go_loopg [12, 13, 14, 15] kj7 (fun kq v12 v13 v14 v15 w' => ∃ (x12_2 : List ByteArray) (x13_2 : List ByteArray) (x14_2 : List ByteArray) (x15_2 : Int), v15 = .int .i64 x15_2 ∧ Aside0 (pollardlaw19_MergeCovers.l0 kq t213 t216 t219 t222 x12_2 x13_2 x14_2 x15_2 = some r) ∧ Aside0 (kq ≤ kj7) ∧ Aside0 (Kd.V Kd.string 9 w' w.heap.size (fun k_ => some k_ ≠ (v224 : Value).ownBlock ∧ some k_ ≠ (v12 : Value).ownBlock ∧ some k_ ≠ (v13 : Value).ownBlock ∧ some k_ ≠ (v14 : Value).ownBlock) (.slice Ao12 t213.length co12) t213) ∧ Aside0 (Kd.V Kd.string 9 w' w.heap.size (fun k_ => some k_ ≠ (v224 : Value).ownBlock ∧ some k_ ≠ (v12 : Value).ownBlock ∧ some k_ ≠ (v13 : Value).ownBlock ∧ some k_ ≠ (v14 : Value).ownBlock) (.slice Ao13 t216.length co13) t216) ∧ Aside0 (Kd.V Kd.string 9 w' w.heap.size (fun k_ => some k_ ≠ (v224 : Value).ownBlock ∧ some k_ ≠ (v12 : Value).ownBlock ∧ some k_ ≠ (v13 : Value).ownBlock ∧ some k_ ≠ (v14 : Value).ownBlock) (.slice Ao14 t219.length co14) t219) ∧ Aside0 (Kd.S k30 30 w' w.heap.size (fun k_ => some k_ ≠ (v12 : Value).ownBlock ∧ some k_ ≠ (v13 : Value).ownBlock ∧ some k_ ≠ (v14 : Value).ownBlock) v224 t222) ∧ Aside0 (Kd.R Kd.string 9 w' w.heap.size (fun k_ => some k_ ≠ (v13 : Value).ownBlock ∧ some k_ ≠ (v14 : Value).ownBlock) v12 x12_2) ∧ Aside0 (Kd.R Kd.string 9 w' w.heap.size (fun k_ => some k_ ≠ (v12 : Value).ownBlock ∧ some k_ ≠ (v14 : Value).ownBlock) v13 x13_2) ∧ Aside0 (Kd.R Kd.string 9 w' w.heap.size (fun k_ => some k_ ≠ (v12 : Value).ownBlock ∧ some k_ ≠ (v13 : Value).ownBlock) v14 x14_2) ∧ Aside0 (Below w.heap.size w w'))
    case atStart => exact ⟨(y227), (y230), (y233), (0), (by first | rfl | (simp; done) | (simp [*]; done)), H', ⟨Nat.le_refl _⟩, ⟨by (with_reducible repeat (first | apply Kd.V_alloc | apply Kd.V_drewN | apply Kd.V_drew)); exact Kd.V_mono HO_7.out (fun _ hk => ⟨hk.1.1.1, ⟨hk.1.1.2, ⟨hk.1.2, hk.2⟩⟩⟩)⟩, ⟨by (with_reducible repeat (first | apply Kd.V_alloc | apply Kd.V_drewN | apply Kd.V_drew)); exact Kd.V_mono HO_8.out (fun _ hk => ⟨hk.1.1.1, ⟨hk.1.1.2, ⟨hk.1.2, hk.2⟩⟩⟩)⟩, ⟨by (with_reducible repeat (first | apply Kd.V_alloc | apply Kd.V_drewN | apply Kd.V_drew)); exact Kd.V_mono HO_9.out (fun _ hk => ⟨hk.1.1.1, ⟨hk.1.1.2, ⟨hk.1.2, hk.2⟩⟩⟩)⟩, ⟨by (with_reducible repeat (first | apply Kd.S_alloc | apply Kd.S_drewN | apply Kd.S_drew)); exact Kd.S_mono HO_10.out (fun _ hk => ⟨hk.1.1.2, ⟨hk.1.2, hk.2⟩⟩)⟩, ⟨by (with_reducible repeat (first | apply Kd.R_alloc | apply Kd.R_drewN | apply Kd.R_drew)); exact Kd.R_mono HO229.out (fun _ hk => ⟨hk.1.2, hk.2⟩)⟩, ⟨by (with_reducible repeat (first | apply Kd.R_alloc | apply Kd.R_drewN | apply Kd.R_drew)); exact Kd.R_mono HO232.out (fun _ hk => ⟨hk.1.2, hk.2⟩)⟩, ⟨by (with_reducible repeat (first | apply Kd.R_alloc | apply Kd.R_drewN | apply Kd.R_drew)); exact Kd.R_mono HO235.out (fun _ hk => ⟨hk.1.2, hk.2⟩)⟩, ⟨by repeat (first | (with_reducible first | exact HB.out | apply below_alloc | apply pw_below_drewN | apply below_drew1) | exact HB.out)⟩⟩
    case round =>
     clear H'
     try clear c1
     try clear c2
     try clear p2
     try clear c3
     try clear c17
     try clear c20
     try clear p2
     obtain ⟨x12_2, x13_2, x14_2, x15_2, rfl, HA, HK2, HO_7, HO_8, HO_9, HO_10, HO_12, HO_13, HO_14, HB⟩ := hrel
     cases gk with
     | zero => exact absurd HA.out (by simp [pollardlaw19_MergeCovers.l0])
     | succ k2 =>
      have H := HA.out
      clear HA
      simp only [pollardlaw19_MergeCovers.l0] at H
      by_cases c27 : x15_2 < (t222.length : Int)
      ·
       rw [if_pos c27] at H
       have c27b0 : decide (x15_2 < (t222.length : Int)) = true := decide_eq_true c27
       clear c27
       by_cases c28 : 0 ≤ x15_2
       ·
        rw [if_pos c28] at H
        have c28b0 : decide (0 ≤ x15_2) = true := decide_eq_true c28
        clear c28
        by_cases c29 : x12_2.length + ((rd_T30 t222 x15_2).f1).length < 8796093022208
        ·
         rw [if_pos c29] at H
         have LMc29 := Aside0.mk c29
         clear c29
         obtain ⟨y240, hy240⟩ : ∃ y_ : List ByteArray, y_ = (x12_2 ++ ((rd_T30 t222 x15_2).f1)) := ⟨_, rfl⟩
         replace H : (if x13_2.length + ((rd_T30 t222 x15_2).f2).length < 8796093022208 then ((some (x13_2 ++ ((rd_T30 t222 x15_2).f2) : List ByteArray)).bind fun y244 => (if x14_2.length + ((rd_T30 t222 x15_2).f3).length < 8796093022208 then ((some (x14_2 ++ ((rd_T30 t222 x15_2).f3) : List ByteArray)).bind fun y248 => ((pollardref19_Same.f k2 ((rd_T30 t222 x15_2).f1) ((rd_T30 t222 x15_2).f2)).bind fun t253 => (if t253 = true then ((pollardref19_Same.f k2 ((rd_T30 t222 x15_2).f1) ((rd_T30 t222 x15_2).f3)).bind fun t256 => (if ((((rd_T30 t222 x15_2).f0) == 1) != t256) = true then (none) else (if x15_2 > 0 then (if ((rd_T30 t222 x15_2).f0) = 1 then (if 0 ≤ (wrap64 (x15_2 - 1)) then (if (wrap64 (x15_2 - 1)) < (t222.length : Int) then (if ((rd_T30 t222 (wrap64 (x15_2 - 1))).f0) = 1 then (none) else (pollardlaw19_MergeCovers.l0 k2 t213 t216 t219 t222 y240 y244 y248 (wrap64 (x15_2 + 1)))) else (none)) else (none)) else (pollardlaw19_MergeCovers.l0 k2 t213 t216 t219 t222 y240 y244 y248 (wrap64 (x15_2 + 1)))) else (pollardlaw19_MergeCovers.l0 k2 t213 t216 t219 t222 y240 y244 y248 (wrap64 (x15_2 + 1)))))) else (if ((((rd_T30 t222 x15_2).f0) == 1) != false) = true then (none) else (if x15_2 > 0 then (if ((rd_T30 t222 x15_2).f0) = 1 then (if 0 ≤ (wrap64 (x15_2 - 1)) then (if (wrap64 (x15_2 - 1)) < (t222.length : Int) then (if ((rd_T30 t222 (wrap64 (x15_2 - 1))).f0) = 1 then (none) else (pollardlaw19_MergeCovers.l0 k2 t213 t216 t219 t222 y240 y244 y248 (wrap64 (x15_2 + 1)))) else (none)) else (none)) else (pollardlaw19_MergeCovers.l0 k2 t213 t216 t219 t222 y240 y244 y248 (wrap64 (x15_2 + 1)))) else (pollardlaw19_MergeCovers.l0 k2 t213 t216 t219 t222 y240 y244 y248 (wrap64 (x15_2 + 1)))))))) else (none))) else (none)) = some r := by first | (rw [hy240]; with_reducible exact H) | (have H2_ := (Option.bind_some _ _).symm.trans H; rw [hy240]; with_reducible exact H2_) | (have H2_ := (Option.bind_some _ _).symm.trans H; with_reducible exact H2_) | with_reducible exact H | (rw [hy240]; exact H) | exact H
         have Ny240 := Aside0.mk hy240
         clear hy240
         by_cases c30 : x13_2.length + ((rd_T30 t222 x15_2).f2).length < 8796093022208
         ·
          rw [if_pos c30] at H
          have LMc30 := Aside0.mk c30
          clear c30
          obtain ⟨y244, hy244⟩ : ∃ y_ : List ByteArray, y_ = (x13_2 ++ ((rd_T30 t222 x15_2).f2)) := ⟨_, rfl⟩
          replace H : (if x14_2.length + ((rd_T30 t222 x15_2).f3).length < 8796093022208 then ((some (x14_2 ++ ((rd_T30 t222 x15_2).f3) : List ByteArray)).bind fun y248 => ((pollardref19_Same.f k2 ((rd_T30 t222 x15_2).f1) ((rd_T30 t222 x15_2).f2)).bind fun t253 => (if t253 = true then ((pollardref19_Same.f k2 ((rd_T30 t222 x15_2).f1) ((rd_T30 t222 x15_2).f3)).bind fun t256 => (if ((((rd_T30 t222 x15_2).f0) == 1) != t256) = true then (none) else (if x15_2 > 0 then (if ((rd_T30 t222 x15_2).f0) = 1 then (if 0 ≤ (wrap64 (x15_2 - 1)) then (if (wrap64 (x15_2 - 1)) < (t222.length : Int) then (if ((rd_T30 t222 (wrap64 (x15_2 - 1))).f0) = 1 then (none) else (pollardlaw19_MergeCovers.l0 k2 t213 t216 t219 t222 y240 y244 y248 (wrap64 (x15_2 + 1)))) else (none)) else (none)) else (pollardlaw19_MergeCovers.l0 k2 t213 t216 t219 t222 y240 y244 y248 (wrap64 (x15_2 + 1)))) else (pollardlaw19_MergeCovers.l0 k2 t213 t216 t219 t222 y240 y244 y248 (wrap64 (x15_2 + 1)))))) else (if ((((rd_T30 t222 x15_2).f0) == 1) != false) = true then (none) else (if x15_2 > 0 then (if ((rd_T30 t222 x15_2).f0) = 1 then (if 0 ≤ (wrap64 (x15_2 - 1)) then (if (wrap64 (x15_2 - 1)) < (t222.length : Int) then (if ((rd_T30 t222 (wrap64 (x15_2 - 1))).f0) = 1 then (none) else (pollardlaw19_MergeCovers.l0 k2 t213 t216 t219 t222 y240 y244 y248 (wrap64 (x15_2 + 1)))) else (none)) else (none)) else (pollardlaw19_MergeCovers.l0 k2 t213 t216 t219 t222 y240 y244 y248 (wrap64 (x15_2 + 1)))) else (pollardlaw19_MergeCovers.l0 k2 t213 t216 t219 t222 y240 y244 y248 (wrap64 (x15_2 + 1)))))))) else (none)) = some r := by first | (rw [hy244]; with_reducible exact H) | (have H2_ := (Option.bind_some _ _).symm.trans H; rw [hy244]; with_reducible exact H2_) | (have H2_ := (Option.bind_some _ _).symm.trans H; with_reducible exact H2_) | with_reducible exact H | (rw [hy244]; exact H) | exact H
          have Ny244 := Aside0.mk hy244
          clear hy244
          by_cases c31 : x14_2.length + ((rd_T30 t222 x15_2).f3).length < 8796093022208
          ·
           rw [if_pos c31] at H
           have LMc31 := Aside0.mk c31
           clear c31
           obtain ⟨y248, hy248⟩ : ∃ y_ : List ByteArray, y_ = (x14_2 ++ ((rd_T30 t222 x15_2).f3)) := ⟨_, rfl⟩
           replace H : ((pollardref19_Same.f k2 ((rd_T30 t222 x15_2).f1) ((rd_T30 t222 x15_2).f2)).bind fun t253 => (if t253 = true then ((pollardref19_Same.f k2 ((rd_T30 t222 x15_2).f1) ((rd_T30 t222 x15_2).f3)).bind fun t256 => (if ((((rd_T30 t222 x15_2).f0) == 1) != t256) = true then (none) else (if x15_2 > 0 then (if ((rd_T30 t222 x15_2).f0) = 1 then (if 0 ≤ (wrap64 (x15_2 - 1)) then (if (wrap64 (x15_2 - 1)) < (t222.length : Int) then (if ((rd_T30 t222 (wrap64 (x15_2 - 1))).f0) = 1 then (none) else (pollardlaw19_MergeCovers.l0 k2 t213 t216 t219 t222 y240 y244 y248 (wrap64 (x15_2 + 1)))) else (none)) else (none)) else (pollardlaw19_MergeCovers.l0 k2 t213 t216 t219 t222 y240 y244 y248 (wrap64 (x15_2 + 1)))) else (pollardlaw19_MergeCovers.l0 k2 t213 t216 t219 t222 y240 y244 y248 (wrap64 (x15_2 + 1)))))) else (if ((((rd_T30 t222 x15_2).f0) == 1) != false) = true then (none) else (if x15_2 > 0 then (if ((rd_T30 t222 x15_2).f0) = 1 then (if 0 ≤ (wrap64 (x15_2 - 1)) then (if (wrap64 (x15_2 - 1)) < (t222.length : Int) then (if ((rd_T30 t222 (wrap64 (x15_2 - 1))).f0) = 1 then (none) else (pollardlaw19_MergeCovers.l0 k2 t213 t216 t219 t222 y240 y244 y248 (wrap64 (x15_2 + 1)))) else (none)) else (none)) else (pollardlaw19_MergeCovers.l0 k2 t213 t216 t219 t222 y240 y244 y248 (wrap64 (x15_2 + 1)))) else (pollardlaw19_MergeCovers.l0 k2 t213 t216 t219 t222 y240 y244 y248 (wrap64 (x15_2 + 1))))))) = some r := by first | (rw [hy248]; with_reducible exact H) | (have H2_ := (Option.bind_some _ _).symm.trans H; rw [hy248]; with_reducible exact H2_) | (have H2_ := (Option.bind_some _ _).symm.trans H; with_reducible exact H2_) | with_reducible exact H | (rw [hy248]; exact H) | exact H
           have Ny248 := Aside0.mk hy248
           clear hy248
           obtain ⟨Ao42, co42, eo42⟩ := Kd.S_slice HO_10.out
           subst eo42
           have p239 : 0 ≤ (x15_2 : Int) := of_decide_eq_true (by first | (with_reducible assumption) | assumption)
           have q239 : x15_2 < (t222.length : Int) := of_decide_eq_true (by first | (with_reducible assumption) | assumption)
           obtain ⟨ad239, A239_1, c239_1, A239_2, c239_2, A239_3, c239_3, e239, hx239_0, hx239_1, hx239_2, hx239_3, hl239_1, hi239_1, hl239_2, hi239_2, hl239_3, hi239_3⟩ := at_T30 (Kd.S_reads' HO_10.out).2.2 x15_2 p239 q239
           cases e239
           obtain ⟨ce239, hce239, hMe239, hcc239⟩ := Kd.S_get HO_10.out z30 x15_2 p239 (by first | exact q239 | exact of_decide_eq_true (by first | (with_reducible assumption) | assumption) | (have e_ := (Kd.S_reads' HO_10.out).1; omega))
           obtain ⟨ve239_1, ve239_2, ve239_3, rfl, ge239_1, ge239_2, ge239_3⟩ := k30_openM hMe239
           have hv239_1 := hcc239 1 _ rfl
           rw [add_field _ _ 1 (by omega)] at hv239_1
           replace hv239_1 := Option.some.inj (hv239_1.symm.trans hx239_1)
           rw [hv239_1] at ge239_1
           have HL239_1 := Aside0.mk (show Kd.R Kd.string 9 _ _ _ _ ((rd_T30 t222 x15_2).f1) from ge239_1)
           clear hv239_1 ge239_1
           have hv239_2 := hcc239 2 _ rfl
           rw [add_field _ _ 2 (by omega)] at hv239_2
           replace hv239_2 := Option.some.inj (hv239_2.symm.trans hx239_2)
           rw [hv239_2] at ge239_2
           have HL239_2 := Aside0.mk (show Kd.R Kd.string 9 _ _ _ _ ((rd_T30 t222 x15_2).f2) from ge239_2)
           clear hv239_2 ge239_2
           have hv239_3 := hcc239 3 _ rfl
           rw [add_field _ _ 3 (by omega)] at hv239_3
           replace hv239_3 := Option.some.inj (hv239_3.symm.trans hx239_3)
           rw [hv239_3] at ge239_3
           have HL239_3 := Aside0.mk (show Kd.R Kd.string 9 _ _ _ _ ((rd_T30 t222 x15_2).f3) from ge239_3)
           clear hv239_3 ge239_3
           clear hcc239 hce239
           have HR239_1 := Aside0.mk hi239_1
           have HC239_1 := Aside0.mk hl239_1
           clear hi239_1 hl239_1
           have HR239_2 := Aside0.mk hi239_2
           have HC239_2 := Aside0.mk hl239_2
           clear hi239_2 hl239_2
           have HR239_3 := Aside0.mk hi239_3
           have HC239_3 := Aside0.mk hl239_3
           clear hi239_3 hl239_3
           replace p239 := eq_true p239
           replace q239 := eq_true q239
           have hn12 : some ad239.block ≠ (u12 : Value).ownBlock := ((Kd.S_R HO_10.out).1 ad239.block rfl).1
           have hn13 : some ad239.block ≠ (u13 : Value).ownBlock := ((Kd.S_R HO_10.out).1 ad239.block rfl).2.1
           have hn14 : some ad239.block ≠ (u14 : Value).ownBlock := ((Kd.S_R HO_10.out).1 ad239.block rfl).2.2
           have HAB := Aside0.mk (add_block ad239 (x15_2.toNat * 4))
           go_wp2_with fail
           have m0_ := Aside0.mk (Kd.V_drew HO_7.out)
           have m1_ := Aside0.mk (Kd.V_drew HO_8.out)
           have m2_ := Aside0.mk (Kd.V_drew HO_9.out)
           have m3_ := Aside0.mk (Kd.S_drew HO_10.out)
           have m4_ := Aside0.mk (Kd.R_drew HO_12.out)
           have m5_ := Aside0.mk (Kd.R_drew HO_13.out)
           have m6_ := Aside0.mk (Kd.R_drew HO_14.out)
           have m7_ := Aside0.mk (Kd.R_drew HL239_1.out)
           have m8_ := Aside0.mk (Kd.R_drew HL239_2.out)
           have m9_ := Aside0.mk (Kd.R_drew HL239_3.out)
           have m10_ := Aside0.mk (below_drew1 HB.out)
           have m11_ := Aside0.mk (Kd.C_drew HR239_1.out)
           have m12_ := Aside0.mk (Kd.C_drew HR239_2.out)
           have m13_ := Aside0.mk (Kd.C_drew HR239_3.out)
           refine wp_region_held_drew (S := (fun w' => w'.cell? ⟨(ad239.add (x15_2.toNat * 4)).block, (ad239.add (x15_2.toNat * 4)).off + 1, none⟩ = some (.slice A239_1 (rd_T30 t222 x15_2).f1.length c239_1) ∧ w'.cell? ⟨(ad239.add (x15_2.toNat * 4)).block, (ad239.add (x15_2.toNat * 4)).off + 2, none⟩ = some (.slice A239_2 (rd_T30 t222 x15_2).f2.length c239_2) ∧ w'.cell? ⟨(ad239.add (x15_2.toNat * 4)).block, (ad239.add (x15_2.toNat * 4)).off + 3, none⟩ = some (.slice A239_3 (rd_T30 t222 x15_2).f3.length c239_3))) (by kernel_rfl) ⟨hx239_1, hx239_2, hx239_3⟩ (fun hHeld => ?_)
           clear HO_7 HO_8 HO_9 HO_10 HO_12 HO_13 HO_14 HL239_1 HL239_2 HL239_3 HB HR239_1 HR239_2 HR239_3
           have HO_7 := m0_
           have HO_8 := m1_
           have HO_9 := m2_
           have HO_10 := m3_
           have HO_12 := m4_
           have HO_13 := m5_
           have HO_14 := m6_
           have HL239_1 := m7_
           have HL239_2 := m8_
           have HL239_3 := m9_
           have HB := m10_
           have HR239_1 := m11_
           have HR239_2 := m12_
           have HR239_3 := m13_
           clear m0_ m1_ m2_ m3_ m4_ m5_ m6_ m7_ m8_ m9_ m10_ m11_ m12_ m13_ hx239_0 hx239_1 hx239_2 hx239_3
           generalize wr.drew = wq at *
           refine cov.take (i := 0) (d := some 45) (v := ?_) rfl rfl (by kernel_rfl) (by kernel_rfl) (by kernel_rfl) (fun _ _ _ h => h) (Or.inl ⟨by rfl, ?_⟩) (by assumption) ?_
           rotate_left
           · (intro w hSw; (try dsimp only at hSw); go_simp; try with_reducible rfl)
           (try simp only [Act.put, List.setIfInBounds_toArray, List.set_cons_zero, List.set_cons_succ])
           refine cov.take (i := 1) (d := some 46) (v := ?_) rfl rfl (by kernel_rfl) (by kernel_rfl) (by kernel_rfl) (fun _ _ _ h => h) (Or.inl ⟨by rfl, ?_⟩) (by assumption) ?_
           rotate_left
           · (intro w hSw; (try dsimp only at hSw); go_simp; try with_reducible rfl)
           (try simp only [Act.put, List.setIfInBounds_toArray, List.set_cons_zero, List.set_cons_succ])
           refine cov.take (i := 2) (d := some 47) (v := ?_) rfl rfl (by kernel_rfl) (by kernel_rfl) (by kernel_rfl) (fun _ _ _ h => h) (Or.inl ⟨by rfl, ?_⟩) (by assumption) ?_
           rotate_left
           · (intro w hSw; (try dsimp only at hSw); go_simp; try with_reducible rfl)
           (try simp only [Act.put, List.setIfInBounds_toArray, List.set_cons_zero, List.set_cons_succ])
           refine cov.take (i := 3) (d := some 48) (v := ?_) rfl rfl (by kernel_rfl) (by kernel_rfl) (by kernel_rfl) (fun _ _ _ h => h) (Or.inl ⟨by rfl, ?_⟩) (by assumption) ?_
           rotate_left
           · (intro w hSw; (try dsimp only at hSw); go_simp; try with_reducible rfl)
           (try simp only [Act.put, List.setIfInBounds_toArray, List.set_cons_zero, List.set_cons_succ])
           refine cov.take (i := 4) (d := some 49) (v := ?_) rfl rfl (by kernel_rfl) (by kernel_rfl) (by kernel_rfl) (fun _ _ _ h => h) (Or.inl ⟨by rfl, ?_⟩) (by assumption) ?_
           rotate_left
           · (intro w hSw; (try dsimp only at hSw); go_simp; try with_reducible rfl)
           (try simp only [Act.put, List.setIfInBounds_toArray, List.set_cons_zero, List.set_cons_succ])
           refine cov.take (i := 5) (d := some 50) (v := ?_) rfl rfl (by kernel_rfl) (by kernel_rfl) (by kernel_rfl) (fun _ _ _ h => h) (Or.inl ⟨by rfl, ?_⟩) (by assumption) ?_
           rotate_left
           · (intro w hSw; (try dsimp only at hSw); go_simp; try with_reducible rfl)
           (try simp only [Act.put, List.setIfInBounds_toArray, List.set_cons_zero, List.set_cons_succ])
           refine cov.take (i := 7) (d := some 52) (v := ?_) rfl rfl (by kernel_rfl) (by kernel_rfl) (by kernel_rfl) (fun _ _ _ h => h) (Or.inl ⟨by rfl, ?_⟩) (by assumption) ?_
           rotate_left
           · (intro w hSw; (try dsimp only at hSw); go_simp; try with_reducible rfl)
           (try simp only [Act.put, List.setIfInBounds_toArray, List.set_cons_zero, List.set_cons_succ])
           refine cov.take (i := 8) (d := some 53) (v := ?_) rfl rfl (by kernel_rfl) (by kernel_rfl) (by kernel_rfl) (fun _ _ _ h => h) (Or.inl ⟨by rfl, ?_⟩) (by assumption) ?_
           rotate_left
           · (intro w hSw; (try dsimp only at hSw); go_simp; try with_reducible rfl)
           (try simp only [Act.put, List.setIfInBounds_toArray, List.set_cons_zero, List.set_cons_succ])
           refine cov.take (i := 9) (d := some 54) (v := ?_) rfl rfl (by kernel_rfl) (by kernel_rfl) (by kernel_rfl) (fun _ _ _ h => h) (Or.inl ⟨by rfl, ?_⟩) (by assumption) ?_
           rotate_left
           · (intro w hSw; (try dsimp only at hSw); go_simp; try with_reducible rfl)
           (try simp only [Act.put, List.setIfInBounds_toArray, List.set_cons_zero, List.set_cons_succ])
           refine cov.take (i := 10) (d := some 55) (v := ?_) rfl rfl (by kernel_rfl) (by kernel_rfl) (by kernel_rfl) (fun _ _ _ h => h) (Or.inl ⟨by rfl, ?_⟩) (by assumption) ?_
           rotate_left
           · (intro w hSw; (try dsimp only at hSw); go_simp; try with_reducible rfl)
           (try simp only [Act.put, List.setIfInBounds_toArray, List.set_cons_zero, List.set_cons_succ])
           refine cov.take (i := 11) (d := some 56) (v := ?_) rfl rfl (by kernel_rfl) (by kernel_rfl) (by kernel_rfl) (fun _ _ _ h => h) (Or.inl ⟨by rfl, ?_⟩) (by assumption) ?_
           rotate_left
           · (intro w hSw; (try dsimp only at hSw); go_simp; try with_reducible rfl)
           (try simp only [Act.put, List.setIfInBounds_toArray, List.set_cons_zero, List.set_cons_succ])
           refine cov.take (i := 12) (d := some 57) (v := ?_) rfl rfl (by kernel_rfl) (by kernel_rfl) (by kernel_rfl) (fun _ _ _ h => h) (Or.inl ⟨by rfl, ?_⟩) (by assumption) ?_
           rotate_left
           · (intro w hSw; (try dsimp only at hSw); go_simp; try with_reducible rfl)
           (try simp only [Act.put, List.setIfInBounds_toArray, List.set_cons_zero, List.set_cons_succ])
           refine cov.take (i := 14) (d := some 59) (v := ?_) rfl rfl (by kernel_rfl) (by kernel_rfl) (by kernel_rfl) (fun _ _ _ h => h) (Or.inl ⟨by rfl, ?_⟩) (by assumption) ?_
           rotate_left
           · (intro w hSw; (try dsimp only at hSw); go_simp; try with_reducible rfl)
           (try simp only [Act.put, List.setIfInBounds_toArray, List.set_cons_zero, List.set_cons_succ])
           refine cov.take (i := 15) (d := some 60) (v := ?_) rfl rfl (by kernel_rfl) (by kernel_rfl) (by kernel_rfl) (fun _ _ _ h => h) (Or.inl ⟨by rfl, ?_⟩) (by assumption) ?_
           rotate_left
           · (intro w hSw; (try dsimp only at hSw); go_simp; try with_reducible rfl)
           (try simp only [Act.put, List.setIfInBounds_toArray, List.set_cons_zero, List.set_cons_succ])
           refine cov.take (i := 16) (d := some 61) (v := ?_) rfl rfl (by kernel_rfl) (by kernel_rfl) (by kernel_rfl) (fun _ _ _ h => h) (Or.inl ⟨by rfl, ?_⟩) (by assumption) ?_
           rotate_left
           · (intro w hSw; (try dsimp only at hSw); go_simp; try with_reducible rfl)
           (try simp only [Act.put, List.setIfInBounds_toArray, List.set_cons_zero, List.set_cons_succ])
           refine cov.take (i := 17) (d := some 62) (v := ?_) rfl rfl (by kernel_rfl) (by kernel_rfl) (by kernel_rfl) (fun _ _ _ h => h) (Or.inl ⟨by rfl, ?_⟩) (by assumption) ?_
           rotate_left
           · (intro w hSw; (try dsimp only at hSw); go_simp; try with_reducible rfl)
           (try simp only [Act.put, List.setIfInBounds_toArray, List.set_cons_zero, List.set_cons_succ])
           refine cov.take (i := 18) (d := some 63) (v := ?_) rfl rfl (by kernel_rfl) (by kernel_rfl) (by kernel_rfl) (fun _ _ _ h => h) (Or.inl ⟨by rfl, ?_⟩) (by assumption) ?_
           rotate_left
           · (intro w hSw; (try dsimp only at hSw); go_simp; try with_reducible rfl)
           (try simp only [Act.put, List.setIfInBounds_toArray, List.set_cons_zero, List.set_cons_succ])
           refine cov.take (i := 19) (d := some 64) (v := ?_) rfl rfl (by kernel_rfl) (by kernel_rfl) (by kernel_rfl) (fun _ _ _ h => h) (Or.inl ⟨by rfl, ?_⟩) (by assumption) ?_
           rotate_left
           · (intro w hSw; (try dsimp only at hSw); go_simp; try with_reducible rfl)
           (try simp only [Act.put, List.setIfInBounds_toArray, List.set_cons_zero, List.set_cons_succ])
           refine wpAnyH_ready (rs := [6]) (by kernel_rfl) (by simp) ?_
           refine AllReadyH.cons rfl (fun K hK => ?_) AllReadyH.nil
           refine Kd.R_append_rows_step Kd.string (w0 := w) w.heap.size (by rfl) (.tmp 45) (.tmp 50) 22 9 (.string ⟨#[]⟩) 16 rfl Tryd.underlying22 info9 rfl (by decide) (by omega) u12 x12_2 ((rd_T30 t222 x15_2).f1) _ _ _ (fun k_ => some k_ ≠ (u13 : Value).ownBlock ∧ some k_ ≠ (u14 : Value).ownBlock) (fun _ => False) rfl rfl ?aO ?aR (fun _ _ h => h) (fun _ h => h.elim) ?aF ?aB ?aS ?aL ?_
           (case aR => repeat (first | exact (by repeat (first | (with_reducible exact HR239_1.out) | (with_reducible refine Kd.C_alloc ?_ _) | (with_reducible refine Kd.C_drewN ?_ _) | (with_reducible refine Kd.C_drew ?_) | exact HR239_1.out)) | (with_reducible refine Kd.C_alloc ?_ _) | (with_reducible refine Kd.C_drewN ?_ _) | (with_reducible refine Kd.C_drew ?_)))
           (case aB => exact (by repeat (first | (with_reducible first | exact HB.out | apply below_alloc | apply pw_below_drewN | apply below_drew1) | exact HB.out)))
           (case aF => exact (fun k_ hk => ⟨Kd.fresh' (Kd.R_lt (by (with_reducible repeat (first | apply Kd.R_alloc | apply Kd.R_drewN | apply Kd.R_drew)); exact HO_13.out)) k_ hk, Kd.fresh' (Kd.R_lt (by (with_reducible repeat (first | apply Kd.R_alloc | apply Kd.R_drewN | apply Kd.R_drew)); exact HO_14.out)) k_ hk⟩))
           (case aO => exact (by (with_reducible repeat (first | apply Kd.R_alloc | apply Kd.R_drewN | apply Kd.R_drew)); exact HO_12.out))
           (case aS => exact (below_size (by repeat (first | (with_reducible first | exact HB.out | apply below_alloc | apply pw_below_drewN | apply below_drew1) | exact HB.out))))
           (case aL => have := LMc29.out; omega)
           intro v241 w43 ho hb hg hat
           refine hK.out _ _ ?_ (fun hHeld => ?_)
           · exact ⟨cov.keep hg hHeld.1 (by rw [HAB.out]; exact hn12), cov.keep hg hHeld.2.1 (by rw [HAB.out]; exact hn12), cov.keep hg hHeld.2.2 (by rw [HAB.out]; exact hn12)⟩
           clear hK K
           (try simp only [Act.put, List.setIfInBounds_toArray, List.set_cons_zero, List.set_cons_succ])
           rw [← Ny240.out] at ho
           have n0_ := Aside0.mk (Kd.V_afterv (ok := (fun k_ => some k_ ≠ (.slice (some ad239) t222.length co42 : Value).ownBlock ∧ some k_ ≠ (u13 : Value).ownBlock ∧ some k_ ≠ (u14 : Value).ownBlock)) (by (with_reducible repeat (first | apply Kd.V_alloc | apply Kd.V_drewN | apply Kd.V_drew)); exact Kd.V_mono HO_7.out (fun _ hk => ⟨⟨hk.1, ⟨hk.2.2.1, hk.2.2.2⟩⟩, hk.2.1⟩)) hg hat)
           have n1_ := Aside0.mk (Kd.V_afterv (ok := (fun k_ => some k_ ≠ (.slice (some ad239) t222.length co42 : Value).ownBlock ∧ some k_ ≠ (u13 : Value).ownBlock ∧ some k_ ≠ (u14 : Value).ownBlock)) (by (with_reducible repeat (first | apply Kd.V_alloc | apply Kd.V_drewN | apply Kd.V_drew)); exact Kd.V_mono HO_8.out (fun _ hk => ⟨⟨hk.1, ⟨hk.2.2.1, hk.2.2.2⟩⟩, hk.2.1⟩)) hg hat)
           have n2_ := Aside0.mk (Kd.V_afterv (ok := (fun k_ => some k_ ≠ (.slice (some ad239) t222.length co42 : Value).ownBlock ∧ some k_ ≠ (u13 : Value).ownBlock ∧ some k_ ≠ (u14 : Value).ownBlock)) (by (with_reducible repeat (first | apply Kd.V_alloc | apply Kd.V_drewN | apply Kd.V_drew)); exact Kd.V_mono HO_9.out (fun _ hk => ⟨⟨hk.1, ⟨hk.2.2.1, hk.2.2.2⟩⟩, hk.2.1⟩)) hg hat)
           have n3_ := Aside0.mk (Kd.S_after (ok := (fun k_ => some k_ ≠ (u13 : Value).ownBlock ∧ some k_ ≠ (u14 : Value).ownBlock)) (by (with_reducible repeat (first | apply Kd.S_alloc | apply Kd.S_drewN | apply Kd.S_drew)); exact Kd.S_mono HO_10.out (fun _ hk => ⟨⟨hk.2.1, hk.2.2⟩, hk.1⟩)) hg hat)
           have n4_ := Aside0.mk (Kd.R_after (ok := (fun k_ => some k_ ≠ (u14 : Value).ownBlock)) (by (with_reducible repeat (first | apply Kd.R_alloc | apply Kd.R_drewN | apply Kd.R_drew)); exact Kd.R_mono HO_13.out (fun _ hk => ⟨hk.2, hk.1⟩)) hg hat)
           have n5_ := Aside0.mk (Kd.R_after (ok := (fun k_ => some k_ ≠ (u13 : Value).ownBlock)) (by (with_reducible repeat (first | apply Kd.R_alloc | apply Kd.R_drewN | apply Kd.R_drew)); exact Kd.R_mono HO_14.out (fun _ hk => ⟨hk.2, hk.1⟩)) hg hat)
           have n6_ := Aside0.mk (Kd.R_after (ok := (fun k_ => some k_ ≠ (.slice (some ad239) t222.length co42 : Value).ownBlock ∧ some k_ ≠ (u13 : Value).ownBlock ∧ some k_ ≠ (u14 : Value).ownBlock)) (by (with_reducible repeat (first | apply Kd.R_alloc | apply Kd.R_drewN | apply Kd.R_drew)); exact Kd.R_mono HL239_1.out (fun _ hk => ⟨⟨hk.2, ⟨hk.1.2.1, hk.1.2.2⟩⟩, hk.1.1⟩)) hg hat)
           have n7_ := Aside0.mk (Kd.R_after (ok := (fun k_ => some k_ ≠ (.slice (some ad239) t222.length co42 : Value).ownBlock ∧ some k_ ≠ (u13 : Value).ownBlock ∧ some k_ ≠ (u14 : Value).ownBlock)) (by (with_reducible repeat (first | apply Kd.R_alloc | apply Kd.R_drewN | apply Kd.R_drew)); exact Kd.R_mono HL239_2.out (fun _ hk => ⟨⟨hk.2, ⟨hk.1.2.1, hk.1.2.2⟩⟩, hk.1.1⟩)) hg hat)
           have n8_ := Aside0.mk (Kd.R_after (ok := (fun k_ => some k_ ≠ (.slice (some ad239) t222.length co42 : Value).ownBlock ∧ some k_ ≠ (u13 : Value).ownBlock ∧ some k_ ≠ (u14 : Value).ownBlock)) (by (with_reducible repeat (first | apply Kd.R_alloc | apply Kd.R_drewN | apply Kd.R_drew)); exact Kd.R_mono HL239_3.out (fun _ hk => ⟨⟨hk.2, ⟨hk.1.2.1, hk.1.2.2⟩⟩, hk.1.1⟩)) hg hat)
           have n9_ := Aside0.mk (hb)
           have n10_ := Aside0.mk (ho)
           clear HO_7
           clear HO_8
           clear HO_9
           clear HO_10
           clear HO_13
           clear HO_14
           clear HL239_1
           clear HL239_2
           clear HL239_3
           clear HB
           clear HO_12
           have HO_7 := n0_
           have HO_8 := n1_
           have HO_9 := n2_
           have HO_10 := n3_
           have HO_13 := n4_
           have HO_14 := n5_
           have HL239_1 := n6_
           have HL239_2 := n7_
           have HL239_3 := n8_
           have HB := n9_
           have HO242 := n10_
           clear n0_ n1_ n2_ n3_ n4_ n5_ n6_ n7_ n8_ n9_ n10_
           clear ho hb hg hat
           have p243 : 0 ≤ (x15_2 : Int) := of_decide_eq_true (by first | (with_reducible assumption) | assumption)
           have q243 : x15_2 < (t222.length : Int) := of_decide_eq_true (by first | (with_reducible assumption) | assumption)
           obtain ⟨ad243, A243_1, c243_1, A243_2, c243_2, A243_3, c243_3, e243, hx243_0, hx243_1, hx243_2, hx243_3, hl243_1, hi243_1, hl243_2, hi243_2, hl243_3, hi243_3⟩ := at_T30 (Kd.S_reads' HO_10.out).2.2 x15_2 p243 q243
           obtain rfl : ad239 = ad243 := (by injection e243)
           obtain ⟨ce243, hce243, hMe243, hcc243⟩ := Kd.S_get HO_10.out z30 x15_2 p243 (by first | exact q243 | exact of_decide_eq_true (by first | (with_reducible assumption) | assumption) | (have e_ := (Kd.S_reads' HO_10.out).1; omega))
           obtain ⟨ve243_1, ve243_2, ve243_3, rfl, ge243_1, ge243_2, ge243_3⟩ := k30_openM hMe243
           have hv243_1 := hcc243 1 _ rfl
           rw [add_field _ _ 1 (by omega)] at hv243_1
           replace hv243_1 := Option.some.inj (hv243_1.symm.trans hx243_1)
           rw [hv243_1] at ge243_1
           have HL243_1 := Aside0.mk (show Kd.R Kd.string 9 _ _ _ _ ((rd_T30 t222 x15_2).f1) from ge243_1)
           clear hv243_1 ge243_1
           have hv243_2 := hcc243 2 _ rfl
           rw [add_field _ _ 2 (by omega)] at hv243_2
           replace hv243_2 := Option.some.inj (hv243_2.symm.trans hx243_2)
           rw [hv243_2] at ge243_2
           have HL243_2 := Aside0.mk (show Kd.R Kd.string 9 _ _ _ _ ((rd_T30 t222 x15_2).f2) from ge243_2)
           clear hv243_2 ge243_2
           have hv243_3 := hcc243 3 _ rfl
           rw [add_field _ _ 3 (by omega)] at hv243_3
           replace hv243_3 := Option.some.inj (hv243_3.symm.trans hx243_3)
           rw [hv243_3] at ge243_3
           have HL243_3 := Aside0.mk (show Kd.R Kd.string 9 _ _ _ _ ((rd_T30 t222 x15_2).f3) from ge243_3)
           clear hv243_3 ge243_3
           clear hcc243 hce243
           have HR243_1 := Aside0.mk hi243_1
           have HC243_1 := Aside0.mk hl243_1
           clear hi243_1 hl243_1
           have HR243_2 := Aside0.mk hi243_2
           have HC243_2 := Aside0.mk hl243_2
           clear hi243_2 hl243_2
           have HR243_3 := Aside0.mk hi243_3
           have HC243_3 := Aside0.mk hl243_3
           clear hi243_3 hl243_3
           replace p243 := eq_true p243
           replace q243 := eq_true q243
           refine wpAnyH_ready (rs := [13]) (by kernel_rfl) (by simp) ?_
           refine AllReadyH.cons rfl (fun K hK => ?_) AllReadyH.nil
           refine Kd.R_append_rows_step Kd.string (w0 := w) w.heap.size (by rfl) (.tmp 52) (.tmp 57) 22 9 (.string ⟨#[]⟩) 16 rfl Tryd.underlying22 info9 rfl (by decide) (by omega) u13 x13_2 ((rd_T30 t222 x15_2).f2) _ _ _ (fun k_ => some k_ ≠ (u14 : Value).ownBlock ∧ some k_ ≠ (v241 : Value).ownBlock) (fun _ => False) rfl rfl ?aO ?aR (fun _ _ h => h) (fun _ h => h.elim) ?aF ?aB ?aS ?aL ?_
           (case aR => exact (Kd.R_reads' HL239_2.out).2.2)
           (case aB => exact (by repeat (first | (with_reducible first | exact HB.out | apply below_alloc | apply pw_below_drewN | apply below_drew1) | exact HB.out)))
           (case aF => exact (fun k_ hk => ⟨Kd.fresh' (Kd.R_lt (by (with_reducible repeat (first | apply Kd.R_alloc | apply Kd.R_drewN | apply Kd.R_drew)); exact HO_14.out)) k_ hk, Kd.fresh' (Kd.R_lt (by (with_reducible repeat (first | apply Kd.R_alloc | apply Kd.R_drewN | apply Kd.R_drew)); exact HO242.out)) k_ hk⟩))
           (case aO => exact (by (with_reducible repeat (first | apply Kd.R_alloc | apply Kd.R_drewN | apply Kd.R_drew)); exact HO_13.out))
           (case aS => exact (below_size (by repeat (first | (with_reducible first | exact HB.out | apply below_alloc | apply pw_below_drewN | apply below_drew1) | exact HB.out))))
           (case aL => have := LMc30.out; omega)
           intro v245 w44 ho hb hg hat
           refine hK.out _ _ ?_ (fun hHeld => ?_)
           · exact ⟨cov.keep hg hHeld.1 (by rw [HAB.out]; exact hn13), cov.keep hg hHeld.2.1 (by rw [HAB.out]; exact hn13), cov.keep hg hHeld.2.2 (by rw [HAB.out]; exact hn13)⟩
           clear hK K
           (try simp only [Act.put, List.setIfInBounds_toArray, List.set_cons_zero, List.set_cons_succ])
           rw [← Ny244.out] at ho
           have n0_ := Aside0.mk (Kd.V_afterv (ok := (fun k_ => some k_ ≠ (.slice (some ad239) t222.length co42 : Value).ownBlock ∧ some k_ ≠ (u14 : Value).ownBlock ∧ some k_ ≠ (v241 : Value).ownBlock)) (by (with_reducible repeat (first | apply Kd.V_alloc | apply Kd.V_drewN | apply Kd.V_drew)); exact Kd.V_mono HO_7.out (fun _ hk => ⟨⟨hk.1.1, ⟨hk.1.2.2, hk.2⟩⟩, hk.1.2.1⟩)) hg hat)
           have n1_ := Aside0.mk (Kd.V_afterv (ok := (fun k_ => some k_ ≠ (.slice (some ad239) t222.length co42 : Value).ownBlock ∧ some k_ ≠ (u14 : Value).ownBlock ∧ some k_ ≠ (v241 : Value).ownBlock)) (by (with_reducible repeat (first | apply Kd.V_alloc | apply Kd.V_drewN | apply Kd.V_drew)); exact Kd.V_mono HO_8.out (fun _ hk => ⟨⟨hk.1.1, ⟨hk.1.2.2, hk.2⟩⟩, hk.1.2.1⟩)) hg hat)
           have n2_ := Aside0.mk (Kd.V_afterv (ok := (fun k_ => some k_ ≠ (.slice (some ad239) t222.length co42 : Value).ownBlock ∧ some k_ ≠ (u14 : Value).ownBlock ∧ some k_ ≠ (v241 : Value).ownBlock)) (by (with_reducible repeat (first | apply Kd.V_alloc | apply Kd.V_drewN | apply Kd.V_drew)); exact Kd.V_mono HO_9.out (fun _ hk => ⟨⟨hk.1.1, ⟨hk.1.2.2, hk.2⟩⟩, hk.1.2.1⟩)) hg hat)
           have n3_ := Aside0.mk (Kd.S_after (ok := (fun k_ => some k_ ≠ (u14 : Value).ownBlock ∧ some k_ ≠ (v241 : Value).ownBlock)) (by (with_reducible repeat (first | apply Kd.S_alloc | apply Kd.S_drewN | apply Kd.S_drew)); exact Kd.S_mono HO_10.out (fun _ hk => ⟨⟨hk.1.2, hk.2⟩, hk.1.1⟩)) hg hat)
           have n4_ := Aside0.mk (Kd.R_after (ok := (fun k_ => some k_ ≠ (v241 : Value).ownBlock)) (by (with_reducible repeat (first | apply Kd.R_alloc | apply Kd.R_drewN | apply Kd.R_drew)); exact Kd.R_mono HO_14.out (fun _ hk => ⟨hk.2, hk.1⟩)) hg hat)
           have n5_ := Aside0.mk (Kd.R_after (ok := (fun k_ => some k_ ≠ (.slice (some ad239) t222.length co42 : Value).ownBlock ∧ some k_ ≠ (u14 : Value).ownBlock ∧ some k_ ≠ (v241 : Value).ownBlock)) (by (with_reducible repeat (first | apply Kd.R_alloc | apply Kd.R_drewN | apply Kd.R_drew)); exact Kd.R_mono HL239_1.out (fun _ hk => ⟨⟨hk.1.1, ⟨hk.1.2.2, hk.2⟩⟩, hk.1.2.1⟩)) hg hat)
           have n6_ := Aside0.mk (Kd.R_after (ok := (fun k_ => some k_ ≠ (.slice (some ad239) t222.length co42 : Value).ownBlock ∧ some k_ ≠ (u14 : Value).ownBlock ∧ some k_ ≠ (v241 : Value).ownBlock)) (by (with_reducible repeat (first | apply Kd.R_alloc | apply Kd.R_drewN | apply Kd.R_drew)); exact Kd.R_mono HL239_2.out (fun _ hk => ⟨⟨hk.1.1, ⟨hk.1.2.2, hk.2⟩⟩, hk.1.2.1⟩)) hg hat)
           have n7_ := Aside0.mk (Kd.R_after (ok := (fun k_ => some k_ ≠ (.slice (some ad239) t222.length co42 : Value).ownBlock ∧ some k_ ≠ (u14 : Value).ownBlock ∧ some k_ ≠ (v241 : Value).ownBlock)) (by (with_reducible repeat (first | apply Kd.R_alloc | apply Kd.R_drewN | apply Kd.R_drew)); exact Kd.R_mono HL239_3.out (fun _ hk => ⟨⟨hk.1.1, ⟨hk.1.2.2, hk.2⟩⟩, hk.1.2.1⟩)) hg hat)
           have n8_ := Aside0.mk (Kd.R_after (ok := (fun k_ => some k_ ≠ (u14 : Value).ownBlock)) (by (with_reducible repeat (first | apply Kd.R_alloc | apply Kd.R_drewN | apply Kd.R_drew)); exact Kd.R_mono HO242.out (fun _ hk => ⟨hk.2, hk.1⟩)) hg hat)
           have n9_ := Aside0.mk (Kd.R_after (ok := (fun k_ => some k_ ≠ (.slice (some ad239) t222.length co42 : Value).ownBlock ∧ some k_ ≠ (u14 : Value).ownBlock ∧ some k_ ≠ (v241 : Value).ownBlock)) (by (with_reducible repeat (first | apply Kd.R_alloc | apply Kd.R_drewN | apply Kd.R_drew)); exact Kd.R_mono HL243_1.out (fun _ hk => ⟨⟨hk.2, ⟨hk.1.1.2, hk.1.2⟩⟩, hk.1.1.1⟩)) hg hat)
           have n10_ := Aside0.mk (Kd.R_after (ok := (fun k_ => some k_ ≠ (.slice (some ad239) t222.length co42 : Value).ownBlock ∧ some k_ ≠ (u14 : Value).ownBlock ∧ some k_ ≠ (v241 : Value).ownBlock)) (by (with_reducible repeat (first | apply Kd.R_alloc | apply Kd.R_drewN | apply Kd.R_drew)); exact Kd.R_mono HL243_2.out (fun _ hk => ⟨⟨hk.2, ⟨hk.1.1.2, hk.1.2⟩⟩, hk.1.1.1⟩)) hg hat)
           have n11_ := Aside0.mk (Kd.R_after (ok := (fun k_ => some k_ ≠ (.slice (some ad239) t222.length co42 : Value).ownBlock ∧ some k_ ≠ (u14 : Value).ownBlock ∧ some k_ ≠ (v241 : Value).ownBlock)) (by (with_reducible repeat (first | apply Kd.R_alloc | apply Kd.R_drewN | apply Kd.R_drew)); exact Kd.R_mono HL243_3.out (fun _ hk => ⟨⟨hk.2, ⟨hk.1.1.2, hk.1.2⟩⟩, hk.1.1.1⟩)) hg hat)
           have n12_ := Aside0.mk (hb)
           have n13_ := Aside0.mk (ho)
           clear HO_7
           clear HO_8
           clear HO_9
           clear HO_10
           clear HO_14
           clear HL239_1
           clear HL239_2
           clear HL239_3
           clear HO242
           clear HL243_1
           clear HL243_2
           clear HL243_3
           clear HB
           clear HO_13
           have HO_7 := n0_
           have HO_8 := n1_
           have HO_9 := n2_
           have HO_10 := n3_
           have HO_14 := n4_
           have HL239_1 := n5_
           have HL239_2 := n6_
           have HL239_3 := n7_
           have HO242 := n8_
           have HL243_1 := n9_
           have HL243_2 := n10_
           have HL243_3 := n11_
           have HB := n12_
           have HO246 := n13_
           clear n0_ n1_ n2_ n3_ n4_ n5_ n6_ n7_ n8_ n9_ n10_ n11_ n12_ n13_
           clear ho hb hg hat
           have p247 : 0 ≤ (x15_2 : Int) := of_decide_eq_true (by first | (with_reducible assumption) | assumption)
           have q247 : x15_2 < (t222.length : Int) := of_decide_eq_true (by first | (with_reducible assumption) | assumption)
           obtain ⟨ad247, A247_1, c247_1, A247_2, c247_2, A247_3, c247_3, e247, hx247_0, hx247_1, hx247_2, hx247_3, hl247_1, hi247_1, hl247_2, hi247_2, hl247_3, hi247_3⟩ := at_T30 (Kd.S_reads' HO_10.out).2.2 x15_2 p247 q247
           obtain rfl : ad239 = ad247 := (by injection e247)
           obtain ⟨ce247, hce247, hMe247, hcc247⟩ := Kd.S_get HO_10.out z30 x15_2 p247 (by first | exact q247 | exact of_decide_eq_true (by first | (with_reducible assumption) | assumption) | (have e_ := (Kd.S_reads' HO_10.out).1; omega))
           obtain ⟨ve247_1, ve247_2, ve247_3, rfl, ge247_1, ge247_2, ge247_3⟩ := k30_openM hMe247
           have hv247_1 := hcc247 1 _ rfl
           rw [add_field _ _ 1 (by omega)] at hv247_1
           replace hv247_1 := Option.some.inj (hv247_1.symm.trans hx247_1)
           rw [hv247_1] at ge247_1
           have HL247_1 := Aside0.mk (show Kd.R Kd.string 9 _ _ _ _ ((rd_T30 t222 x15_2).f1) from ge247_1)
           clear hv247_1 ge247_1
           have hv247_2 := hcc247 2 _ rfl
           rw [add_field _ _ 2 (by omega)] at hv247_2
           replace hv247_2 := Option.some.inj (hv247_2.symm.trans hx247_2)
           rw [hv247_2] at ge247_2
           have HL247_2 := Aside0.mk (show Kd.R Kd.string 9 _ _ _ _ ((rd_T30 t222 x15_2).f2) from ge247_2)
           clear hv247_2 ge247_2
           have hv247_3 := hcc247 3 _ rfl
           rw [add_field _ _ 3 (by omega)] at hv247_3
           replace hv247_3 := Option.some.inj (hv247_3.symm.trans hx247_3)
           rw [hv247_3] at ge247_3
           have HL247_3 := Aside0.mk (show Kd.R Kd.string 9 _ _ _ _ ((rd_T30 t222 x15_2).f3) from ge247_3)
           clear hv247_3 ge247_3
           clear hcc247 hce247
           have HR247_1 := Aside0.mk hi247_1
           have HC247_1 := Aside0.mk hl247_1
           clear hi247_1 hl247_1
           have HR247_2 := Aside0.mk hi247_2
           have HC247_2 := Aside0.mk hl247_2
           clear hi247_2 hl247_2
           have HR247_3 := Aside0.mk hi247_3
           have HC247_3 := Aside0.mk hl247_3
           clear hi247_3 hl247_3
           replace p247 := eq_true p247
           replace q247 := eq_true q247
           refine wpAnyH_ready (rs := [20]) (by kernel_rfl) (by simp) ?_
           refine AllReadyH.cons rfl (fun K hK => ?_) AllReadyH.nil
           refine Kd.R_append_rows_step Kd.string (w0 := w) w.heap.size (by rfl) (.tmp 59) (.tmp 64) 22 9 (.string ⟨#[]⟩) 16 rfl Tryd.underlying22 info9 rfl (by decide) (by omega) u14 x14_2 ((rd_T30 t222 x15_2).f3) _ _ _ (fun k_ => some k_ ≠ (v241 : Value).ownBlock ∧ some k_ ≠ (v245 : Value).ownBlock) (fun _ => False) rfl rfl ?aO ?aR (fun _ _ h => h) (fun _ h => h.elim) ?aF ?aB ?aS ?aL ?_
           (case aR => exact (Kd.R_reads' HL239_3.out).2.2)
           (case aB => exact (by repeat (first | (with_reducible first | exact HB.out | apply below_alloc | apply pw_below_drewN | apply below_drew1) | exact HB.out)))
           (case aF => exact (fun k_ hk => ⟨Kd.fresh' (Kd.R_lt (by (with_reducible repeat (first | apply Kd.R_alloc | apply Kd.R_drewN | apply Kd.R_drew)); exact HO242.out)) k_ hk, Kd.fresh' (Kd.R_lt (by (with_reducible repeat (first | apply Kd.R_alloc | apply Kd.R_drewN | apply Kd.R_drew)); exact HO246.out)) k_ hk⟩))
           (case aO => exact (by (with_reducible repeat (first | apply Kd.R_alloc | apply Kd.R_drewN | apply Kd.R_drew)); exact HO_14.out))
           (case aS => exact (below_size (by repeat (first | (with_reducible first | exact HB.out | apply below_alloc | apply pw_below_drewN | apply below_drew1) | exact HB.out))))
           (case aL => have := LMc31.out; omega)
           intro v249 w45 ho hb hg hat
           refine hK.out _ _ ?_ (fun hHeld => ?_)
           · exact ⟨cov.keep hg hHeld.1 (by rw [HAB.out]; exact hn14), cov.keep hg hHeld.2.1 (by rw [HAB.out]; exact hn14), cov.keep hg hHeld.2.2 (by rw [HAB.out]; exact hn14)⟩
           clear hK K
           (try simp only [Act.put, List.setIfInBounds_toArray, List.set_cons_zero, List.set_cons_succ])
           rw [← Ny248.out] at ho
           have n0_ := Aside0.mk (Kd.V_afterv (ok := (fun k_ => some k_ ≠ (.slice (some ad239) t222.length co42 : Value).ownBlock ∧ some k_ ≠ (v241 : Value).ownBlock ∧ some k_ ≠ (v245 : Value).ownBlock)) (by (with_reducible repeat (first | apply Kd.V_alloc | apply Kd.V_drewN | apply Kd.V_drew)); exact Kd.V_mono HO_7.out (fun _ hk => ⟨⟨hk.1.1, ⟨hk.1.2.2, hk.2⟩⟩, hk.1.2.1⟩)) hg hat)
           have n1_ := Aside0.mk (Kd.V_afterv (ok := (fun k_ => some k_ ≠ (.slice (some ad239) t222.length co42 : Value).ownBlock ∧ some k_ ≠ (v241 : Value).ownBlock ∧ some k_ ≠ (v245 : Value).ownBlock)) (by (with_reducible repeat (first | apply Kd.V_alloc | apply Kd.V_drewN | apply Kd.V_drew)); exact Kd.V_mono HO_8.out (fun _ hk => ⟨⟨hk.1.1, ⟨hk.1.2.2, hk.2⟩⟩, hk.1.2.1⟩)) hg hat)
           have n2_ := Aside0.mk (Kd.V_afterv (ok := (fun k_ => some k_ ≠ (.slice (some ad239) t222.length co42 : Value).ownBlock ∧ some k_ ≠ (v241 : Value).ownBlock ∧ some k_ ≠ (v245 : Value).ownBlock)) (by (with_reducible repeat (first | apply Kd.V_alloc | apply Kd.V_drewN | apply Kd.V_drew)); exact Kd.V_mono HO_9.out (fun _ hk => ⟨⟨hk.1.1, ⟨hk.1.2.2, hk.2⟩⟩, hk.1.2.1⟩)) hg hat)
           have n3_ := Aside0.mk (Kd.S_after (ok := (fun k_ => some k_ ≠ (v241 : Value).ownBlock ∧ some k_ ≠ (v245 : Value).ownBlock)) (by (with_reducible repeat (first | apply Kd.S_alloc | apply Kd.S_drewN | apply Kd.S_drew)); exact Kd.S_mono HO_10.out (fun _ hk => ⟨⟨hk.1.2, hk.2⟩, hk.1.1⟩)) hg hat)
           have n4_ := Aside0.mk (Kd.R_after (ok := (fun k_ => some k_ ≠ (.slice (some ad239) t222.length co42 : Value).ownBlock ∧ some k_ ≠ (v241 : Value).ownBlock ∧ some k_ ≠ (v245 : Value).ownBlock)) (by (with_reducible repeat (first | apply Kd.R_alloc | apply Kd.R_drewN | apply Kd.R_drew)); exact Kd.R_mono HL239_1.out (fun _ hk => ⟨⟨hk.1.1, ⟨hk.1.2.2, hk.2⟩⟩, hk.1.2.1⟩)) hg hat)
           have n5_ := Aside0.mk (Kd.R_after (ok := (fun k_ => some k_ ≠ (.slice (some ad239) t222.length co42 : Value).ownBlock ∧ some k_ ≠ (v241 : Value).ownBlock ∧ some k_ ≠ (v245 : Value).ownBlock)) (by (with_reducible repeat (first | apply Kd.R_alloc | apply Kd.R_drewN | apply Kd.R_drew)); exact Kd.R_mono HL239_2.out (fun _ hk => ⟨⟨hk.1.1, ⟨hk.1.2.2, hk.2⟩⟩, hk.1.2.1⟩)) hg hat)
           have n6_ := Aside0.mk (Kd.R_after (ok := (fun k_ => some k_ ≠ (.slice (some ad239) t222.length co42 : Value).ownBlock ∧ some k_ ≠ (v241 : Value).ownBlock ∧ some k_ ≠ (v245 : Value).ownBlock)) (by (with_reducible repeat (first | apply Kd.R_alloc | apply Kd.R_drewN | apply Kd.R_drew)); exact Kd.R_mono HL239_3.out (fun _ hk => ⟨⟨hk.1.1, ⟨hk.1.2.2, hk.2⟩⟩, hk.1.2.1⟩)) hg hat)
           have n7_ := Aside0.mk (Kd.R_after (ok := (fun k_ => some k_ ≠ (v245 : Value).ownBlock)) (by (with_reducible repeat (first | apply Kd.R_alloc | apply Kd.R_drewN | apply Kd.R_drew)); exact Kd.R_mono HO242.out (fun _ hk => ⟨hk.2, hk.1⟩)) hg hat)
           have n8_ := Aside0.mk (Kd.R_after (ok := (fun k_ => some k_ ≠ (.slice (some ad239) t222.length co42 : Value).ownBlock ∧ some k_ ≠ (v241 : Value).ownBlock ∧ some k_ ≠ (v245 : Value).ownBlock)) (by (with_reducible repeat (first | apply Kd.R_alloc | apply Kd.R_drewN | apply Kd.R_drew)); exact Kd.R_mono HL243_1.out (fun _ hk => ⟨⟨hk.1.1, ⟨hk.1.2.2, hk.2⟩⟩, hk.1.2.1⟩)) hg hat)
           have n9_ := Aside0.mk (Kd.R_after (ok := (fun k_ => some k_ ≠ (.slice (some ad239) t222.length co42 : Value).ownBlock ∧ some k_ ≠ (v241 : Value).ownBlock ∧ some k_ ≠ (v245 : Value).ownBlock)) (by (with_reducible repeat (first | apply Kd.R_alloc | apply Kd.R_drewN | apply Kd.R_drew)); exact Kd.R_mono HL243_2.out (fun _ hk => ⟨⟨hk.1.1, ⟨hk.1.2.2, hk.2⟩⟩, hk.1.2.1⟩)) hg hat)
           have n10_ := Aside0.mk (Kd.R_after (ok := (fun k_ => some k_ ≠ (.slice (some ad239) t222.length co42 : Value).ownBlock ∧ some k_ ≠ (v241 : Value).ownBlock ∧ some k_ ≠ (v245 : Value).ownBlock)) (by (with_reducible repeat (first | apply Kd.R_alloc | apply Kd.R_drewN | apply Kd.R_drew)); exact Kd.R_mono HL243_3.out (fun _ hk => ⟨⟨hk.1.1, ⟨hk.1.2.2, hk.2⟩⟩, hk.1.2.1⟩)) hg hat)
           have n11_ := Aside0.mk (Kd.R_after (ok := (fun k_ => some k_ ≠ (v241 : Value).ownBlock)) (by (with_reducible repeat (first | apply Kd.R_alloc | apply Kd.R_drewN | apply Kd.R_drew)); exact Kd.R_mono HO246.out (fun _ hk => ⟨hk.2, hk.1⟩)) hg hat)
           have n12_ := Aside0.mk (Kd.R_after (ok := (fun k_ => some k_ ≠ (.slice (some ad239) t222.length co42 : Value).ownBlock ∧ some k_ ≠ (v241 : Value).ownBlock ∧ some k_ ≠ (v245 : Value).ownBlock)) (by (with_reducible repeat (first | apply Kd.R_alloc | apply Kd.R_drewN | apply Kd.R_drew)); exact Kd.R_mono HL247_1.out (fun _ hk => ⟨⟨hk.2, ⟨hk.1.1.2, hk.1.2⟩⟩, hk.1.1.1⟩)) hg hat)
           have n13_ := Aside0.mk (Kd.R_after (ok := (fun k_ => some k_ ≠ (.slice (some ad239) t222.length co42 : Value).ownBlock ∧ some k_ ≠ (v241 : Value).ownBlock ∧ some k_ ≠ (v245 : Value).ownBlock)) (by (with_reducible repeat (first | apply Kd.R_alloc | apply Kd.R_drewN | apply Kd.R_drew)); exact Kd.R_mono HL247_2.out (fun _ hk => ⟨⟨hk.2, ⟨hk.1.1.2, hk.1.2⟩⟩, hk.1.1.1⟩)) hg hat)
           have n14_ := Aside0.mk (Kd.R_after (ok := (fun k_ => some k_ ≠ (.slice (some ad239) t222.length co42 : Value).ownBlock ∧ some k_ ≠ (v241 : Value).ownBlock ∧ some k_ ≠ (v245 : Value).ownBlock)) (by (with_reducible repeat (first | apply Kd.R_alloc | apply Kd.R_drewN | apply Kd.R_drew)); exact Kd.R_mono HL247_3.out (fun _ hk => ⟨⟨hk.2, ⟨hk.1.1.2, hk.1.2⟩⟩, hk.1.1.1⟩)) hg hat)
           have n15_ := Aside0.mk (hb)
           have n16_ := Aside0.mk (ho)
           clear HO_7
           clear HO_8
           clear HO_9
           clear HO_10
           clear HL239_1
           clear HL239_2
           clear HL239_3
           clear HO242
           clear HL243_1
           clear HL243_2
           clear HL243_3
           clear HO246
           clear HL247_1
           clear HL247_2
           clear HL247_3
           clear HB
           clear HO_14
           have HO_7 := n0_
           have HO_8 := n1_
           have HO_9 := n2_
           have HO_10 := n3_
           have HL239_1 := n4_
           have HL239_2 := n5_
           have HL239_3 := n6_
           have HO242 := n7_
           have HL243_1 := n8_
           have HL243_2 := n9_
           have HL243_3 := n10_
           have HO246 := n11_
           have HL247_1 := n12_
           have HL247_2 := n13_
           have HL247_3 := n14_
           have HB := n15_
           have HO250 := n16_
           clear n0_ n1_ n2_ n3_ n4_ n5_ n6_ n7_ n8_ n9_ n10_ n11_ n12_ n13_ n14_ n15_ n16_
           clear ho hb hg hat
           have p251 : 0 ≤ (x15_2 : Int) := of_decide_eq_true (by first | (with_reducible assumption) | assumption)
           have q251 : x15_2 < (t222.length : Int) := of_decide_eq_true (by first | (with_reducible assumption) | assumption)
           obtain ⟨ad251, A251_1, c251_1, A251_2, c251_2, A251_3, c251_3, e251, hx251_0, hx251_1, hx251_2, hx251_3, hl251_1, hi251_1, hl251_2, hi251_2, hl251_3, hi251_3⟩ := at_T30 (Kd.S_reads' HO_10.out).2.2 x15_2 p251 q251
           obtain rfl : ad239 = ad251 := (by injection e251)
           obtain ⟨ce251, hce251, hMe251, hcc251⟩ := Kd.S_get HO_10.out z30 x15_2 p251 (by first | exact q251 | exact of_decide_eq_true (by first | (with_reducible assumption) | assumption) | (have e_ := (Kd.S_reads' HO_10.out).1; omega))
           obtain ⟨ve251_1, ve251_2, ve251_3, rfl, ge251_1, ge251_2, ge251_3⟩ := k30_openM hMe251
           have hv251_1 := hcc251 1 _ rfl
           rw [add_field _ _ 1 (by omega)] at hv251_1
           replace hv251_1 := Option.some.inj (hv251_1.symm.trans hx251_1)
           rw [hv251_1] at ge251_1
           have HL251_1 := Aside0.mk (show Kd.R Kd.string 9 _ _ _ _ ((rd_T30 t222 x15_2).f1) from ge251_1)
           clear hv251_1 ge251_1
           have hv251_2 := hcc251 2 _ rfl
           rw [add_field _ _ 2 (by omega)] at hv251_2
           replace hv251_2 := Option.some.inj (hv251_2.symm.trans hx251_2)
           rw [hv251_2] at ge251_2
           have HL251_2 := Aside0.mk (show Kd.R Kd.string 9 _ _ _ _ ((rd_T30 t222 x15_2).f2) from ge251_2)
           clear hv251_2 ge251_2
           have hv251_3 := hcc251 3 _ rfl
           rw [add_field _ _ 3 (by omega)] at hv251_3
           replace hv251_3 := Option.some.inj (hv251_3.symm.trans hx251_3)
           rw [hv251_3] at ge251_3
           have HL251_3 := Aside0.mk (show Kd.R Kd.string 9 _ _ _ _ ((rd_T30 t222 x15_2).f3) from ge251_3)
           clear hv251_3 ge251_3
           clear hcc251 hce251
           have HR251_1 := Aside0.mk hi251_1
           have HC251_1 := Aside0.mk hl251_1
           clear hi251_1 hl251_1
           have HR251_2 := Aside0.mk hi251_2
           have HC251_2 := Aside0.mk hl251_2
           clear hi251_2 hl251_2
           have HR251_3 := Aside0.mk hi251_3
           have HC251_3 := Aside0.mk hl251_3
           clear hi251_3 hl251_3
           replace p251 := eq_true p251
           replace q251 := eq_true q251
           have p252 : 0 ≤ (x15_2 : Int) := of_decide_eq_true (by first | (with_reducible assumption) | assumption)
           have q252 : x15_2 < (t222.length : Int) := of_decide_eq_true (by first | (with_reducible assumption) | assumption)
           obtain ⟨ad252, A252_1, c252_1, A252_2, c252_2, A252_3, c252_3, e252, hx252_0, hx252_1, hx252_2, hx252_3, hl252_1, hi252_1, hl252_2, hi252_2, hl252_3, hi252_3⟩ := at_T30 (Kd.S_reads' HO_10.out).2.2 x15_2 p252 q252
           obtain rfl : ad239 = ad252 := (by injection e252)
           obtain ⟨ce252, hce252, hMe252, hcc252⟩ := Kd.S_get HO_10.out z30 x15_2 p252 (by first | exact q252 | exact of_decide_eq_true (by first | (with_reducible assumption) | assumption) | (have e_ := (Kd.S_reads' HO_10.out).1; omega))
           obtain ⟨ve252_1, ve252_2, ve252_3, rfl, ge252_1, ge252_2, ge252_3⟩ := k30_openM hMe252
           have hv252_1 := hcc252 1 _ rfl
           rw [add_field _ _ 1 (by omega)] at hv252_1
           replace hv252_1 := Option.some.inj (hv252_1.symm.trans hx252_1)
           rw [hv252_1] at ge252_1
           have HL252_1 := Aside0.mk (show Kd.R Kd.string 9 _ _ _ _ ((rd_T30 t222 x15_2).f1) from ge252_1)
           clear hv252_1 ge252_1
           have hv252_2 := hcc252 2 _ rfl
           rw [add_field _ _ 2 (by omega)] at hv252_2
           replace hv252_2 := Option.some.inj (hv252_2.symm.trans hx252_2)
           rw [hv252_2] at ge252_2
           have HL252_2 := Aside0.mk (show Kd.R Kd.string 9 _ _ _ _ ((rd_T30 t222 x15_2).f2) from ge252_2)
           clear hv252_2 ge252_2
           have hv252_3 := hcc252 3 _ rfl
           rw [add_field _ _ 3 (by omega)] at hv252_3
           replace hv252_3 := Option.some.inj (hv252_3.symm.trans hx252_3)
           rw [hv252_3] at ge252_3
           have HL252_3 := Aside0.mk (show Kd.R Kd.string 9 _ _ _ _ ((rd_T30 t222 x15_2).f3) from ge252_3)
           clear hv252_3 ge252_3
           clear hcc252 hce252
           have HR252_1 := Aside0.mk hi252_1
           have HC252_1 := Aside0.mk hl252_1
           clear hi252_1 hl252_1
           have HR252_2 := Aside0.mk hi252_2
           have HC252_2 := Aside0.mk hl252_2
           clear hi252_2 hl252_2
           have HR252_3 := Aside0.mk hi252_3
           have HC252_3 := Aside0.mk hl252_3
           clear hi252_3 hl252_3
           replace p252 := eq_true p252
           replace q252 := eq_true q252
           have ea_ := Option.some.inj (hx251_1.symm.trans hx252_1)
           injection ea_ with ea_ en_ ec_
           subst ea_
           subst ec_
           clear en_
           have ea_ := Option.some.inj (hx251_2.symm.trans hx252_2)
           injection ea_ with ea_ en_ ec_
           subst ea_
           subst ec_
           clear en_
           have ea_ := Option.some.inj (hx251_3.symm.trans hx252_3)
           injection ea_ with ea_ en_ ec_
           subst ea_
           subst ec_
           clear en_
           refine cov.take (i := 21) (d := some 12) (v := ?_) rfl rfl (by kernel_rfl) (by kernel_rfl) (by kernel_rfl) (fun _ _ _ h => h) (Or.inl ⟨by rfl, ?_⟩) (by assumption) ?_
           rotate_left
           · (intro w hSw; (try dsimp only at hSw); go_simp; try with_reducible rfl)
           (try simp only [Act.put, List.setIfInBounds_toArray, List.set_cons_zero, List.set_cons_succ])
           refine cov.take (i := 22) (d := some 13) (v := ?_) rfl rfl (by kernel_rfl) (by kernel_rfl) (by kernel_rfl) (fun _ _ _ h => h) (Or.inl ⟨by rfl, ?_⟩) (by assumption) ?_
           rotate_left
           · (intro w hSw; (try dsimp only at hSw); go_simp; try with_reducible rfl)
           (try simp only [Act.put, List.setIfInBounds_toArray, List.set_cons_zero, List.set_cons_succ])
           refine cov.take (i := 23) (d := some 14) (v := ?_) rfl rfl (by kernel_rfl) (by kernel_rfl) (by kernel_rfl) (fun _ _ _ h => h) (Or.inl ⟨by rfl, ?_⟩) (by assumption) ?_
           rotate_left
           · (intro w hSw; (try dsimp only at hSw); go_simp; try with_reducible rfl)
           (try simp only [Act.put, List.setIfInBounds_toArray, List.set_cons_zero, List.set_cons_succ])
           refine wpAnyH_done (by kernel_rfl) ?_ _
           clear hHeld
           replace H := Option.bind_eq_some_iff.mp H
           obtain ⟨t253, A320, H⟩ := H
           replace H : (if t253 = true then ((pollardref19_Same.f k2 ((rd_T30 t222 x15_2).f1) ((rd_T30 t222 x15_2).f3)).bind fun t256 => (if ((((rd_T30 t222 x15_2).f0) == 1) != t256) = true then (none) else (if x15_2 > 0 then (if ((rd_T30 t222 x15_2).f0) = 1 then (if 0 ≤ (wrap64 (x15_2 - 1)) then (if (wrap64 (x15_2 - 1)) < (t222.length : Int) then (if ((rd_T30 t222 (wrap64 (x15_2 - 1))).f0) = 1 then (none) else (pollardlaw19_MergeCovers.l0 k2 t213 t216 t219 t222 y240 y244 y248 (wrap64 (x15_2 + 1)))) else (none)) else (none)) else (pollardlaw19_MergeCovers.l0 k2 t213 t216 t219 t222 y240 y244 y248 (wrap64 (x15_2 + 1)))) else (pollardlaw19_MergeCovers.l0 k2 t213 t216 t219 t222 y240 y244 y248 (wrap64 (x15_2 + 1)))))) else (if ((((rd_T30 t222 x15_2).f0) == 1) != false) = true then (none) else (if x15_2 > 0 then (if ((rd_T30 t222 x15_2).f0) = 1 then (if 0 ≤ (wrap64 (x15_2 - 1)) then (if (wrap64 (x15_2 - 1)) < (t222.length : Int) then (if ((rd_T30 t222 (wrap64 (x15_2 - 1))).f0) = 1 then (none) else (pollardlaw19_MergeCovers.l0 k2 t213 t216 t219 t222 y240 y244 y248 (wrap64 (x15_2 + 1)))) else (none)) else (none)) else (pollardlaw19_MergeCovers.l0 k2 t213 t216 t219 t222 y240 y244 y248 (wrap64 (x15_2 + 1)))) else (pollardlaw19_MergeCovers.l0 k2 t213 t216 t219 t222 y240 y244 y248 (wrap64 (x15_2 + 1)))))) = some r := H
           have A32 := Aside0.mk A320
           clear A320
           by_cases c33 : t253 = true
           ·
            subst c33
            have H1 : ((pollardref19_Same.f k2 ((rd_T30 t222 x15_2).f1) ((rd_T30 t222 x15_2).f3)).bind fun t256 => (if ((((rd_T30 t222 x15_2).f0) == 1) != t256) = true then (none) else (if x15_2 > 0 then (if ((rd_T30 t222 x15_2).f0) = 1 then (if 0 ≤ (wrap64 (x15_2 - 1)) then (if (wrap64 (x15_2 - 1)) < (t222.length : Int) then (if ((rd_T30 t222 (wrap64 (x15_2 - 1))).f0) = 1 then (none) else (pollardlaw19_MergeCovers.l0 k2 t213 t216 t219 t222 y240 y244 y248 (wrap64 (x15_2 + 1)))) else (none)) else (none)) else (pollardlaw19_MergeCovers.l0 k2 t213 t216 t219 t222 y240 y244 y248 (wrap64 (x15_2 + 1)))) else (pollardlaw19_MergeCovers.l0 k2 t213 t216 t219 t222 y240 y244 y248 (wrap64 (x15_2 + 1)))))) = some r := by rw [if_pos rfl] at H; exact H
            clear H
            have H := H1
            clear H1
            replace H := Option.bind_eq_some_iff.mp H
            obtain ⟨t256, A340, H⟩ := H
            replace H : (if ((((rd_T30 t222 x15_2).f0) == 1) != t256) = true then (none) else (if x15_2 > 0 then (if ((rd_T30 t222 x15_2).f0) = 1 then (if 0 ≤ (wrap64 (x15_2 - 1)) then (if (wrap64 (x15_2 - 1)) < (t222.length : Int) then (if ((rd_T30 t222 (wrap64 (x15_2 - 1))).f0) = 1 then (none) else (pollardlaw19_MergeCovers.l0 k2 t213 t216 t219 t222 y240 y244 y248 (wrap64 (x15_2 + 1)))) else (none)) else (none)) else (pollardlaw19_MergeCovers.l0 k2 t213 t216 t219 t222 y240 y244 y248 (wrap64 (x15_2 + 1)))) else (pollardlaw19_MergeCovers.l0 k2 t213 t216 t219 t222 y240 y244 y248 (wrap64 (x15_2 + 1))))) = some r := H
            have A34 := Aside0.mk A340
            clear A340
            by_cases c35 : ((((rd_T30 t222 x15_2).f0) == 1) != t256) = true
            · rw [if_pos c35] at H
              exact absurd H (by simp)
            ·
             rw [if_neg c35] at H
             have c35b0 : ((((rd_T30 t222 x15_2).f0) == 1) != t256) = false := by simpa using c35
             (try (have c35b1 : decide ((((rd_T30 t222 x15_2).f0) == 1) = t256) = true := by simpa using c35))
             (try (have c35b2 : ((((rd_T30 t222 x15_2).f0) == 1) == t256) = true := by simpa using c35))
             clear c35
             by_cases c36 : x15_2 > 0
             ·
              rw [if_pos c36] at H
              have c36b0 : decide (0 < x15_2) = true := decide_eq_true c36
              clear c36
              by_cases c37 : ((rd_T30 t222 x15_2).f0) = 1
              ·
               rw [if_pos c37] at H
               have c37b0 : (((rd_T30 t222 x15_2).f0) == 1) = true := beq_iff_eq.mpr c37
               have c37b1 : (((rd_T30 t222 x15_2).f0) != 1) = false := bne_eq_false_iff_eq.mpr c37
               clear c37
               obtain ⟨ji38, hji38⟩ : ∃ j_ : Int, (wrap64 (x15_2 - 1)) = j_ := ⟨_, rfl⟩
               replace H : (if 0 ≤ (ji38) then (if (ji38) < (t222.length : Int) then (if ((rd_T30 t222 (ji38)).f0) = 1 then (none) else (pollardlaw19_MergeCovers.l0 k2 t213 t216 t219 t222 y240 y244 y248 (wrap64 (x15_2 + 1)))) else (none)) else (none)) = some r := by first | (rw [hji38] at H; exact H) | (simp only [hji38] at H ⊢; exact H)
               (try rw [hji38] at A32)
               (try rw [hji38] at A34)
               have hji38w : (IntKind.i64.wrap (x15_2 - 1)) = ji38 := (i64_w _).trans hji38
               by_cases c39 : 0 ≤ (ji38)
               ·
                rw [if_pos c39] at H
                have c39b0 : decide (0 ≤ (ji38)) = true := decide_eq_true c39
                clear c39
                by_cases c40 : (ji38) < (t222.length : Int)
                ·
                 rw [if_pos c40] at H
                 have c40b0 : decide ((ji38) < (t222.length : Int)) = true := decide_eq_true c40
                 clear c40
                 by_cases c41 : ((rd_T30 t222 (ji38)).f0) = 1
                 · rw [if_pos c41] at H
                   exact absurd H (by simp)
                 ·
                  rw [if_neg c41] at H
                  have c41b0 : (((rd_T30 t222 (ji38)).f0) == 1) = false := beq_eq_false_iff_ne.mpr c41
                  have c41b1 : (((rd_T30 t222 (ji38)).f0) != 1) = true := bne_iff_ne.mpr c41
                  have H' := Aside0.mk H
                  clear H
                  go_wp2_with fail
                  go_quiet (first | (go_at_call 7; (with_reducible refine (pollardref19_Same.calls k2 _ _ ((rd_T30 t222 x15_2).f1) _ _ ((rd_T30 t222 x15_2).f2) true _ ?side1 ?side2 ?side3 ?side4 A32.out).mono ?_); (case side1 => repeat (first | exact (by repeat (first | (with_reducible exact HR251_1.out) | (with_reducible refine Kd.C_alloc ?_ _) | (with_reducible refine Kd.C_drewN ?_ _) | (with_reducible refine Kd.C_drew ?_) | exact HR251_1.out)) | (with_reducible refine Kd.C_alloc ?_ _) | (with_reducible refine Kd.C_drewN ?_ _) | (with_reducible refine Kd.C_drew ?_))); (case side2 => exact HC251_1.out); (case side3 => repeat (first | exact (by repeat (first | (with_reducible exact HR252_2.out) | (with_reducible refine Kd.C_alloc ?_ _) | (with_reducible refine Kd.C_drewN ?_ _) | (with_reducible refine Kd.C_drew ?_) | exact HR252_2.out)) | (with_reducible refine Kd.C_alloc ?_ _) | (with_reducible refine Kd.C_drewN ?_ _) | (with_reducible refine Kd.C_drew ?_))); (case side4 => exact HC252_2.out); rintro e w' ⟨rfl, ⟨nd, rfl⟩⟩; (try first | exact ⟨rfl, _, World.drewN_drewN _ _ _⟩ | exact ⟨rfl, _, Eq.trans (World.drewN_drewN _ _ _) (congrArg (World.drewN _) (Nat.add_assoc _ _ _))⟩)) | (go_at_call 7; (with_reducible refine (pollardref19_Same.calls k2 _ _ ((rd_T30 t222 x15_2).f1) _ _ ((rd_T30 t222 x15_2).f3) t256 _ ?side1 ?side2 ?side3 ?side4 A34.out).mono ?_); (case side1 => repeat (first | exact (by repeat (first | (with_reducible exact HR251_1.out) | (with_reducible refine Kd.C_alloc ?_ _) | (with_reducible refine Kd.C_drewN ?_ _) | (with_reducible refine Kd.C_drew ?_) | exact HR251_1.out)) | (with_reducible refine Kd.C_alloc ?_ _) | (with_reducible refine Kd.C_drewN ?_ _) | (with_reducible refine Kd.C_drew ?_))); (case side2 => exact HC251_1.out); (case side3 => repeat (first | exact (by repeat (first | (with_reducible exact HR251_3.out) | (with_reducible refine Kd.C_alloc ?_ _) | (with_reducible refine Kd.C_drewN ?_ _) | (with_reducible refine Kd.C_drew ?_) | exact HR251_3.out)) | (with_reducible refine Kd.C_alloc ?_ _) | (with_reducible refine Kd.C_drewN ?_ _) | (with_reducible refine Kd.C_drew ?_))); (case side4 => exact HC251_3.out); rintro e w' ⟨rfl, ⟨nd, rfl⟩⟩; (try first | exact ⟨rfl, _, World.drewN_drewN _ _ _⟩ | exact ⟨rfl, _, Eq.trans (World.drewN_drewN _ _ _) (congrArg (World.drewN _) (Nat.add_assoc _ _ _))⟩)))
                  obtain rfl : t256 = ((rd_T30 t222 x15_2).f0 == 1) := by have h_ := c35b0; revert h_; cases t256 <;> cases ((rd_T30 t222 x15_2).f0 == 1) <;> simp
                  have hbb_ : (((rd_T30 t222 x15_2).f0 == 1) != ((rd_T30 t222 x15_2).f0 == 1)) = false := bne_self_eq_false _
                  have p254 : 0 ≤ (x15_2 : Int) := of_decide_eq_true (by first | (with_reducible assumption) | assumption)
                  have q254 : x15_2 < (t222.length : Int) := of_decide_eq_true (by first | (with_reducible assumption) | assumption)
                  obtain ⟨ad254, A254_1, c254_1, A254_2, c254_2, A254_3, c254_3, e254, hx254_0, hx254_1, hx254_2, hx254_3, hl254_1, hi254_1, hl254_2, hi254_2, hl254_3, hi254_3⟩ := at_T30 (Kd.S_reads' HO_10.out).2.2 x15_2 p254 q254
                  obtain rfl : ad239 = ad254 := (by injection e254)
                  obtain ⟨ce254, hce254, hMe254, hcc254⟩ := Kd.S_get HO_10.out z30 x15_2 p254 (by first | exact q254 | exact of_decide_eq_true (by first | (with_reducible assumption) | assumption) | (have e_ := (Kd.S_reads' HO_10.out).1; omega))
                  obtain ⟨ve254_1, ve254_2, ve254_3, rfl, ge254_1, ge254_2, ge254_3⟩ := k30_openM hMe254
                  have hv254_1 := hcc254 1 _ rfl
                  rw [add_field _ _ 1 (by omega)] at hv254_1
                  replace hv254_1 := Option.some.inj (hv254_1.symm.trans hx254_1)
                  rw [hv254_1] at ge254_1
                  have HL254_1 := Aside0.mk (show Kd.R Kd.string 9 _ _ _ _ ((rd_T30 t222 x15_2).f1) from ge254_1)
                  clear hv254_1 ge254_1
                  have hv254_2 := hcc254 2 _ rfl
                  rw [add_field _ _ 2 (by omega)] at hv254_2
                  replace hv254_2 := Option.some.inj (hv254_2.symm.trans hx254_2)
                  rw [hv254_2] at ge254_2
                  have HL254_2 := Aside0.mk (show Kd.R Kd.string 9 _ _ _ _ ((rd_T30 t222 x15_2).f2) from ge254_2)
                  clear hv254_2 ge254_2
                  have hv254_3 := hcc254 3 _ rfl
                  rw [add_field _ _ 3 (by omega)] at hv254_3
                  replace hv254_3 := Option.some.inj (hv254_3.symm.trans hx254_3)
                  rw [hv254_3] at ge254_3
                  have HL254_3 := Aside0.mk (show Kd.R Kd.string 9 _ _ _ _ ((rd_T30 t222 x15_2).f3) from ge254_3)
                  clear hv254_3 ge254_3
                  clear hcc254 hce254
                  have HR254_1 := Aside0.mk hi254_1
                  have HC254_1 := Aside0.mk hl254_1
                  clear hi254_1 hl254_1
                  have HR254_2 := Aside0.mk hi254_2
                  have HC254_2 := Aside0.mk hl254_2
                  clear hi254_2 hl254_2
                  have HR254_3 := Aside0.mk hi254_3
                  have HC254_3 := Aside0.mk hl254_3
                  clear hi254_3 hl254_3
                  replace p254 := eq_true p254
                  replace q254 := eq_true q254
                  have ea_ := Option.some.inj (hx251_1.symm.trans hx254_1)
                  injection ea_ with ea_ en_ ec_
                  subst ea_
                  subst ec_
                  clear en_
                  have ea_ := Option.some.inj (hx251_2.symm.trans hx254_2)
                  injection ea_ with ea_ en_ ec_
                  subst ea_
                  subst ec_
                  clear en_
                  have ea_ := Option.some.inj (hx251_3.symm.trans hx254_3)
                  injection ea_ with ea_ en_ ec_
                  subst ea_
                  subst ec_
                  clear en_
                  have p255 : 0 ≤ (x15_2 : Int) := of_decide_eq_true (by first | (with_reducible assumption) | assumption)
                  have q255 : x15_2 < (t222.length : Int) := of_decide_eq_true (by first | (with_reducible assumption) | assumption)
                  obtain ⟨ad255, A255_1, c255_1, A255_2, c255_2, A255_3, c255_3, e255, hx255_0, hx255_1, hx255_2, hx255_3, hl255_1, hi255_1, hl255_2, hi255_2, hl255_3, hi255_3⟩ := at_T30 (Kd.S_reads' HO_10.out).2.2 x15_2 p255 q255
                  obtain rfl : ad239 = ad255 := (by injection e255)
                  obtain ⟨ce255, hce255, hMe255, hcc255⟩ := Kd.S_get HO_10.out z30 x15_2 p255 (by first | exact q255 | exact of_decide_eq_true (by first | (with_reducible assumption) | assumption) | (have e_ := (Kd.S_reads' HO_10.out).1; omega))
                  obtain ⟨ve255_1, ve255_2, ve255_3, rfl, ge255_1, ge255_2, ge255_3⟩ := k30_openM hMe255
                  have hv255_1 := hcc255 1 _ rfl
                  rw [add_field _ _ 1 (by omega)] at hv255_1
                  replace hv255_1 := Option.some.inj (hv255_1.symm.trans hx255_1)
                  rw [hv255_1] at ge255_1
                  have HL255_1 := Aside0.mk (show Kd.R Kd.string 9 _ _ _ _ ((rd_T30 t222 x15_2).f1) from ge255_1)
                  clear hv255_1 ge255_1
                  have hv255_2 := hcc255 2 _ rfl
                  rw [add_field _ _ 2 (by omega)] at hv255_2
                  replace hv255_2 := Option.some.inj (hv255_2.symm.trans hx255_2)
                  rw [hv255_2] at ge255_2
                  have HL255_2 := Aside0.mk (show Kd.R Kd.string 9 _ _ _ _ ((rd_T30 t222 x15_2).f2) from ge255_2)
                  clear hv255_2 ge255_2
                  have hv255_3 := hcc255 3 _ rfl
                  rw [add_field _ _ 3 (by omega)] at hv255_3
                  replace hv255_3 := Option.some.inj (hv255_3.symm.trans hx255_3)
                  rw [hv255_3] at ge255_3
                  have HL255_3 := Aside0.mk (show Kd.R Kd.string 9 _ _ _ _ ((rd_T30 t222 x15_2).f3) from ge255_3)
                  clear hv255_3 ge255_3
                  clear hcc255 hce255
                  have HR255_1 := Aside0.mk hi255_1
                  have HC255_1 := Aside0.mk hl255_1
                  clear hi255_1 hl255_1
                  have HR255_2 := Aside0.mk hi255_2
                  have HC255_2 := Aside0.mk hl255_2
                  clear hi255_2 hl255_2
                  have HR255_3 := Aside0.mk hi255_3
                  have HC255_3 := Aside0.mk hl255_3
                  clear hi255_3 hl255_3
                  replace p255 := eq_true p255
                  replace q255 := eq_true q255
                  have ea_ := Option.some.inj (hx251_1.symm.trans hx255_1)
                  injection ea_ with ea_ en_ ec_
                  subst ea_
                  subst ec_
                  clear en_
                  have ea_ := Option.some.inj (hx251_2.symm.trans hx255_2)
                  injection ea_ with ea_ en_ ec_
                  subst ea_
                  subst ec_
                  clear en_
                  have ea_ := Option.some.inj (hx251_3.symm.trans hx255_3)
                  injection ea_ with ea_ en_ ec_
                  subst ea_
                  subst ec_
                  clear en_
                  have p257 : 0 ≤ (x15_2 : Int) := of_decide_eq_true (by first | (with_reducible assumption) | assumption)
                  have q257 : x15_2 < (t222.length : Int) := of_decide_eq_true (by first | (with_reducible assumption) | assumption)
                  obtain ⟨ad257, A257_1, c257_1, A257_2, c257_2, A257_3, c257_3, e257, hx257_0, hx257_1, hx257_2, hx257_3, hl257_1, hi257_1, hl257_2, hi257_2, hl257_3, hi257_3⟩ := at_T30 (Kd.S_reads' HO_10.out).2.2 x15_2 p257 q257
                  obtain rfl : ad239 = ad257 := (by injection e257)
                  obtain ⟨ce257, hce257, hMe257, hcc257⟩ := Kd.S_get HO_10.out z30 x15_2 p257 (by first | exact q257 | exact of_decide_eq_true (by first | (with_reducible assumption) | assumption) | (have e_ := (Kd.S_reads' HO_10.out).1; omega))
                  obtain ⟨ve257_1, ve257_2, ve257_3, rfl, ge257_1, ge257_2, ge257_3⟩ := k30_openM hMe257
                  have hv257_1 := hcc257 1 _ rfl
                  rw [add_field _ _ 1 (by omega)] at hv257_1
                  replace hv257_1 := Option.some.inj (hv257_1.symm.trans hx257_1)
                  rw [hv257_1] at ge257_1
                  have HL257_1 := Aside0.mk (show Kd.R Kd.string 9 _ _ _ _ ((rd_T30 t222 x15_2).f1) from ge257_1)
                  clear hv257_1 ge257_1
                  have hv257_2 := hcc257 2 _ rfl
                  rw [add_field _ _ 2 (by omega)] at hv257_2
                  replace hv257_2 := Option.some.inj (hv257_2.symm.trans hx257_2)
                  rw [hv257_2] at ge257_2
                  have HL257_2 := Aside0.mk (show Kd.R Kd.string 9 _ _ _ _ ((rd_T30 t222 x15_2).f2) from ge257_2)
                  clear hv257_2 ge257_2
                  have hv257_3 := hcc257 3 _ rfl
                  rw [add_field _ _ 3 (by omega)] at hv257_3
                  replace hv257_3 := Option.some.inj (hv257_3.symm.trans hx257_3)
                  rw [hv257_3] at ge257_3
                  have HL257_3 := Aside0.mk (show Kd.R Kd.string 9 _ _ _ _ ((rd_T30 t222 x15_2).f3) from ge257_3)
                  clear hv257_3 ge257_3
                  clear hcc257 hce257
                  have HR257_1 := Aside0.mk hi257_1
                  have HC257_1 := Aside0.mk hl257_1
                  clear hi257_1 hl257_1
                  have HR257_2 := Aside0.mk hi257_2
                  have HC257_2 := Aside0.mk hl257_2
                  clear hi257_2 hl257_2
                  have HR257_3 := Aside0.mk hi257_3
                  have HC257_3 := Aside0.mk hl257_3
                  clear hi257_3 hl257_3
                  replace p257 := eq_true p257
                  replace q257 := eq_true q257
                  have ea_ := Option.some.inj (hx251_1.symm.trans hx257_1)
                  injection ea_ with ea_ en_ ec_
                  subst ea_
                  subst ec_
                  clear en_
                  have ea_ := Option.some.inj (hx251_2.symm.trans hx257_2)
                  injection ea_ with ea_ en_ ec_
                  subst ea_
                  subst ec_
                  clear en_
                  have ea_ := Option.some.inj (hx251_3.symm.trans hx257_3)
                  injection ea_ with ea_ en_ ec_
                  subst ea_
                  subst ec_
                  clear en_
                  have p258 : 0 ≤ (x15_2 : Int) := of_decide_eq_true (by first | (with_reducible assumption) | assumption)
                  have q258 : x15_2 < (t222.length : Int) := of_decide_eq_true (by first | (with_reducible assumption) | assumption)
                  obtain ⟨ad258, A258_1, c258_1, A258_2, c258_2, A258_3, c258_3, e258, hx258_0, hx258_1, hx258_2, hx258_3, hl258_1, hi258_1, hl258_2, hi258_2, hl258_3, hi258_3⟩ := at_T30 (Kd.S_reads' HO_10.out).2.2 x15_2 p258 q258
                  obtain rfl : ad239 = ad258 := (by injection e258)
                  obtain ⟨ce258, hce258, hMe258, hcc258⟩ := Kd.S_get HO_10.out z30 x15_2 p258 (by first | exact q258 | exact of_decide_eq_true (by first | (with_reducible assumption) | assumption) | (have e_ := (Kd.S_reads' HO_10.out).1; omega))
                  obtain ⟨ve258_1, ve258_2, ve258_3, rfl, ge258_1, ge258_2, ge258_3⟩ := k30_openM hMe258
                  have hv258_1 := hcc258 1 _ rfl
                  rw [add_field _ _ 1 (by omega)] at hv258_1
                  replace hv258_1 := Option.some.inj (hv258_1.symm.trans hx258_1)
                  rw [hv258_1] at ge258_1
                  have HL258_1 := Aside0.mk (show Kd.R Kd.string 9 _ _ _ _ ((rd_T30 t222 x15_2).f1) from ge258_1)
                  clear hv258_1 ge258_1
                  have hv258_2 := hcc258 2 _ rfl
                  rw [add_field _ _ 2 (by omega)] at hv258_2
                  replace hv258_2 := Option.some.inj (hv258_2.symm.trans hx258_2)
                  rw [hv258_2] at ge258_2
                  have HL258_2 := Aside0.mk (show Kd.R Kd.string 9 _ _ _ _ ((rd_T30 t222 x15_2).f2) from ge258_2)
                  clear hv258_2 ge258_2
                  have hv258_3 := hcc258 3 _ rfl
                  rw [add_field _ _ 3 (by omega)] at hv258_3
                  replace hv258_3 := Option.some.inj (hv258_3.symm.trans hx258_3)
                  rw [hv258_3] at ge258_3
                  have HL258_3 := Aside0.mk (show Kd.R Kd.string 9 _ _ _ _ ((rd_T30 t222 x15_2).f3) from ge258_3)
                  clear hv258_3 ge258_3
                  clear hcc258 hce258
                  have HR258_1 := Aside0.mk hi258_1
                  have HC258_1 := Aside0.mk hl258_1
                  clear hi258_1 hl258_1
                  have HR258_2 := Aside0.mk hi258_2
                  have HC258_2 := Aside0.mk hl258_2
                  clear hi258_2 hl258_2
                  have HR258_3 := Aside0.mk hi258_3
                  have HC258_3 := Aside0.mk hl258_3
                  clear hi258_3 hl258_3
                  replace p258 := eq_true p258
                  replace q258 := eq_true q258
                  have ea_ := Option.some.inj (hx251_1.symm.trans hx258_1)
                  injection ea_ with ea_ en_ ec_
                  subst ea_
                  subst ec_
                  clear en_
                  have ea_ := Option.some.inj (hx251_2.symm.trans hx258_2)
                  injection ea_ with ea_ en_ ec_
                  subst ea_
                  subst ec_
                  clear en_
                  have ea_ := Option.some.inj (hx251_3.symm.trans hx258_3)
                  injection ea_ with ea_ en_ ec_
                  subst ea_
                  subst ec_
                  clear en_
                  have p259 : 0 ≤ ((ji38) : Int) := of_decide_eq_true (by first | (with_reducible assumption) | assumption)
                  have q259 : (ji38) < (t222.length : Int) := of_decide_eq_true (by first | (with_reducible assumption) | assumption)
                  obtain ⟨ad259, A259_1, c259_1, A259_2, c259_2, A259_3, c259_3, e259, hx259_0, hx259_1, hx259_2, hx259_3, hl259_1, hi259_1, hl259_2, hi259_2, hl259_3, hi259_3⟩ := at_T30 (Kd.S_reads' HO_10.out).2.2 (ji38) p259 q259
                  obtain rfl : ad239 = ad259 := (by injection e259)
                  obtain ⟨ce259, hce259, hMe259, hcc259⟩ := Kd.S_get HO_10.out z30 (ji38) p259 (by first | exact q259 | exact of_decide_eq_true (by first | (with_reducible assumption) | assumption) | (have e_ := (Kd.S_reads' HO_10.out).1; omega))
                  obtain ⟨ve259_1, ve259_2, ve259_3, rfl, ge259_1, ge259_2, ge259_3⟩ := k30_openM hMe259
                  have hv259_1 := hcc259 1 _ rfl
                  rw [add_field _ _ 1 (by omega)] at hv259_1
                  replace hv259_1 := Option.some.inj (hv259_1.symm.trans hx259_1)
                  rw [hv259_1] at ge259_1
                  have HL259_1 := Aside0.mk (show Kd.R Kd.string 9 _ _ _ _ ((rd_T30 t222 (ji38)).f1) from ge259_1)
                  clear hv259_1 ge259_1
                  have hv259_2 := hcc259 2 _ rfl
                  rw [add_field _ _ 2 (by omega)] at hv259_2
                  replace hv259_2 := Option.some.inj (hv259_2.symm.trans hx259_2)
                  rw [hv259_2] at ge259_2
                  have HL259_2 := Aside0.mk (show Kd.R Kd.string 9 _ _ _ _ ((rd_T30 t222 (ji38)).f2) from ge259_2)
                  clear hv259_2 ge259_2
                  have hv259_3 := hcc259 3 _ rfl
                  rw [add_field _ _ 3 (by omega)] at hv259_3
                  replace hv259_3 := Option.some.inj (hv259_3.symm.trans hx259_3)
                  rw [hv259_3] at ge259_3
                  have HL259_3 := Aside0.mk (show Kd.R Kd.string 9 _ _ _ _ ((rd_T30 t222 (ji38)).f3) from ge259_3)
                  clear hv259_3 ge259_3
                  clear hcc259 hce259
                  have HR259_1 := Aside0.mk hi259_1
                  have HC259_1 := Aside0.mk hl259_1
                  clear hi259_1 hl259_1
                  have HR259_2 := Aside0.mk hi259_2
                  have HC259_2 := Aside0.mk hl259_2
                  clear hi259_2 hl259_2
                  have HR259_3 := Aside0.mk hi259_3
                  have HC259_3 := Aside0.mk hl259_3
                  clear hi259_3 hl259_3
                  replace p259 := eq_true p259
                  replace q259 := eq_true q259
                  go_wp2_with fail
                  go_roundg k2
                  case measure => have := HJ7.out; have := HK2.out; omega
                  case rel => exact ⟨(y240), (y244), (y248), (wrap64 (x15_2 + 1)), (by first | rfl | (simp; done) | (simp [*]; done)), H', ⟨by have := HJ7.out; have := HK2.out; omega⟩, ⟨by (with_reducible repeat (first | apply Kd.V_alloc | apply Kd.V_drewN | apply Kd.V_drew)); exact Kd.V_mono HO_7.out (fun _ hk => ⟨hk.1.1, ⟨hk.1.2.1, ⟨hk.1.2.2, hk.2⟩⟩⟩)⟩, ⟨by (with_reducible repeat (first | apply Kd.V_alloc | apply Kd.V_drewN | apply Kd.V_drew)); exact Kd.V_mono HO_8.out (fun _ hk => ⟨hk.1.1, ⟨hk.1.2.1, ⟨hk.1.2.2, hk.2⟩⟩⟩)⟩, ⟨by (with_reducible repeat (first | apply Kd.V_alloc | apply Kd.V_drewN | apply Kd.V_drew)); exact Kd.V_mono HO_9.out (fun _ hk => ⟨hk.1.1, ⟨hk.1.2.1, ⟨hk.1.2.2, hk.2⟩⟩⟩)⟩, ⟨by (with_reducible repeat (first | apply Kd.S_alloc | apply Kd.S_drewN | apply Kd.S_drew)); exact Kd.S_mono HO_10.out (fun _ hk => ⟨hk.1.1, ⟨hk.1.2, hk.2⟩⟩)⟩, ⟨by (with_reducible repeat (first | apply Kd.R_alloc | apply Kd.R_drewN | apply Kd.R_drew)); exact HO242.out⟩, ⟨by (with_reducible repeat (first | apply Kd.R_alloc | apply Kd.R_drewN | apply Kd.R_drew)); exact HO246.out⟩, ⟨by (with_reducible repeat (first | apply Kd.R_alloc | apply Kd.R_drewN | apply Kd.R_drew)); exact HO250.out⟩, ⟨by repeat (first | (with_reducible first | exact HB.out | apply below_alloc | apply pw_below_drewN | apply below_drew1) | exact HB.out)⟩⟩
                · rw [if_neg c40] at H
                  exact absurd H (by simp)
               · rw [if_neg c39] at H
                 exact absurd H (by simp)
              ·
               rw [if_neg c37] at H
               have c37b0 : (((rd_T30 t222 x15_2).f0) == 1) = false := beq_eq_false_iff_ne.mpr c37
               have c37b1 : (((rd_T30 t222 x15_2).f0) != 1) = true := bne_iff_ne.mpr c37
               have H' := Aside0.mk H
               clear H
               go_wp2_with fail
               go_quiet (first | (go_at_call 7; (with_reducible refine (pollardref19_Same.calls k2 _ _ ((rd_T30 t222 x15_2).f1) _ _ ((rd_T30 t222 x15_2).f2) true _ ?side1 ?side2 ?side3 ?side4 A32.out).mono ?_); (case side1 => repeat (first | exact (by repeat (first | (with_reducible exact HR251_1.out) | (with_reducible refine Kd.C_alloc ?_ _) | (with_reducible refine Kd.C_drewN ?_ _) | (with_reducible refine Kd.C_drew ?_) | exact HR251_1.out)) | (with_reducible refine Kd.C_alloc ?_ _) | (with_reducible refine Kd.C_drewN ?_ _) | (with_reducible refine Kd.C_drew ?_))); (case side2 => exact HC251_1.out); (case side3 => repeat (first | exact (by repeat (first | (with_reducible exact HR252_2.out) | (with_reducible refine Kd.C_alloc ?_ _) | (with_reducible refine Kd.C_drewN ?_ _) | (with_reducible refine Kd.C_drew ?_) | exact HR252_2.out)) | (with_reducible refine Kd.C_alloc ?_ _) | (with_reducible refine Kd.C_drewN ?_ _) | (with_reducible refine Kd.C_drew ?_))); (case side4 => exact HC252_2.out); rintro e w' ⟨rfl, ⟨nd, rfl⟩⟩; (try first | exact ⟨rfl, _, World.drewN_drewN _ _ _⟩ | exact ⟨rfl, _, Eq.trans (World.drewN_drewN _ _ _) (congrArg (World.drewN _) (Nat.add_assoc _ _ _))⟩)) | (go_at_call 7; (with_reducible refine (pollardref19_Same.calls k2 _ _ ((rd_T30 t222 x15_2).f1) _ _ ((rd_T30 t222 x15_2).f3) t256 _ ?side1 ?side2 ?side3 ?side4 A34.out).mono ?_); (case side1 => repeat (first | exact (by repeat (first | (with_reducible exact HR251_1.out) | (with_reducible refine Kd.C_alloc ?_ _) | (with_reducible refine Kd.C_drewN ?_ _) | (with_reducible refine Kd.C_drew ?_) | exact HR251_1.out)) | (with_reducible refine Kd.C_alloc ?_ _) | (with_reducible refine Kd.C_drewN ?_ _) | (with_reducible refine Kd.C_drew ?_))); (case side2 => exact HC251_1.out); (case side3 => repeat (first | exact (by repeat (first | (with_reducible exact HR251_3.out) | (with_reducible refine Kd.C_alloc ?_ _) | (with_reducible refine Kd.C_drewN ?_ _) | (with_reducible refine Kd.C_drew ?_) | exact HR251_3.out)) | (with_reducible refine Kd.C_alloc ?_ _) | (with_reducible refine Kd.C_drewN ?_ _) | (with_reducible refine Kd.C_drew ?_))); (case side4 => exact HC251_3.out); rintro e w' ⟨rfl, ⟨nd, rfl⟩⟩; (try first | exact ⟨rfl, _, World.drewN_drewN _ _ _⟩ | exact ⟨rfl, _, Eq.trans (World.drewN_drewN _ _ _) (congrArg (World.drewN _) (Nat.add_assoc _ _ _))⟩)))
               obtain rfl : t256 = ((rd_T30 t222 x15_2).f0 == 1) := by have h_ := c35b0; revert h_; cases t256 <;> cases ((rd_T30 t222 x15_2).f0 == 1) <;> simp
               have hbb_ : (((rd_T30 t222 x15_2).f0 == 1) != ((rd_T30 t222 x15_2).f0 == 1)) = false := bne_self_eq_false _
               have p254 : 0 ≤ (x15_2 : Int) := of_decide_eq_true (by first | (with_reducible assumption) | assumption)
               have q254 : x15_2 < (t222.length : Int) := of_decide_eq_true (by first | (with_reducible assumption) | assumption)
               obtain ⟨ad254, A254_1, c254_1, A254_2, c254_2, A254_3, c254_3, e254, hx254_0, hx254_1, hx254_2, hx254_3, hl254_1, hi254_1, hl254_2, hi254_2, hl254_3, hi254_3⟩ := at_T30 (Kd.S_reads' HO_10.out).2.2 x15_2 p254 q254
               obtain rfl : ad239 = ad254 := (by injection e254)
               obtain ⟨ce254, hce254, hMe254, hcc254⟩ := Kd.S_get HO_10.out z30 x15_2 p254 (by first | exact q254 | exact of_decide_eq_true (by first | (with_reducible assumption) | assumption) | (have e_ := (Kd.S_reads' HO_10.out).1; omega))
               obtain ⟨ve254_1, ve254_2, ve254_3, rfl, ge254_1, ge254_2, ge254_3⟩ := k30_openM hMe254
               have hv254_1 := hcc254 1 _ rfl
               rw [add_field _ _ 1 (by omega)] at hv254_1
               replace hv254_1 := Option.some.inj (hv254_1.symm.trans hx254_1)
               rw [hv254_1] at ge254_1
               have HL254_1 := Aside0.mk (show Kd.R Kd.string 9 _ _ _ _ ((rd_T30 t222 x15_2).f1) from ge254_1)
               clear hv254_1 ge254_1
               have hv254_2 := hcc254 2 _ rfl
               rw [add_field _ _ 2 (by omega)] at hv254_2
               replace hv254_2 := Option.some.inj (hv254_2.symm.trans hx254_2)
               rw [hv254_2] at ge254_2
               have HL254_2 := Aside0.mk (show Kd.R Kd.string 9 _ _ _ _ ((rd_T30 t222 x15_2).f2) from ge254_2)
               clear hv254_2 ge254_2
               have hv254_3 := hcc254 3 _ rfl
               rw [add_field _ _ 3 (by omega)] at hv254_3
               replace hv254_3 := Option.some.inj (hv254_3.symm.trans hx254_3)
               rw [hv254_3] at ge254_3
               have HL254_3 := Aside0.mk (show Kd.R Kd.string 9 _ _ _ _ ((rd_T30 t222 x15_2).f3) from ge254_3)
               clear hv254_3 ge254_3
               clear hcc254 hce254
               have HR254_1 := Aside0.mk hi254_1
               have HC254_1 := Aside0.mk hl254_1
               clear hi254_1 hl254_1
               have HR254_2 := Aside0.mk hi254_2
               have HC254_2 := Aside0.mk hl254_2
               clear hi254_2 hl254_2
               have HR254_3 := Aside0.mk hi254_3
               have HC254_3 := Aside0.mk hl254_3
               clear hi254_3 hl254_3
               replace p254 := eq_true p254
               replace q254 := eq_true q254
               have ea_ := Option.some.inj (hx251_1.symm.trans hx254_1)
               injection ea_ with ea_ en_ ec_
               subst ea_
               subst ec_
               clear en_
               have ea_ := Option.some.inj (hx251_2.symm.trans hx254_2)
               injection ea_ with ea_ en_ ec_
               subst ea_
               subst ec_
               clear en_
               have ea_ := Option.some.inj (hx251_3.symm.trans hx254_3)
               injection ea_ with ea_ en_ ec_
               subst ea_
               subst ec_
               clear en_
               have p255 : 0 ≤ (x15_2 : Int) := of_decide_eq_true (by first | (with_reducible assumption) | assumption)
               have q255 : x15_2 < (t222.length : Int) := of_decide_eq_true (by first | (with_reducible assumption) | assumption)
               obtain ⟨ad255, A255_1, c255_1, A255_2, c255_2, A255_3, c255_3, e255, hx255_0, hx255_1, hx255_2, hx255_3, hl255_1, hi255_1, hl255_2, hi255_2, hl255_3, hi255_3⟩ := at_T30 (Kd.S_reads' HO_10.out).2.2 x15_2 p255 q255
               obtain rfl : ad239 = ad255 := (by injection e255)
               obtain ⟨ce255, hce255, hMe255, hcc255⟩ := Kd.S_get HO_10.out z30 x15_2 p255 (by first | exact q255 | exact of_decide_eq_true (by first | (with_reducible assumption) | assumption) | (have e_ := (Kd.S_reads' HO_10.out).1; omega))
               obtain ⟨ve255_1, ve255_2, ve255_3, rfl, ge255_1, ge255_2, ge255_3⟩ := k30_openM hMe255
               have hv255_1 := hcc255 1 _ rfl
               rw [add_field _ _ 1 (by omega)] at hv255_1
               replace hv255_1 := Option.some.inj (hv255_1.symm.trans hx255_1)
               rw [hv255_1] at ge255_1
               have HL255_1 := Aside0.mk (show Kd.R Kd.string 9 _ _ _ _ ((rd_T30 t222 x15_2).f1) from ge255_1)
               clear hv255_1 ge255_1
               have hv255_2 := hcc255 2 _ rfl
               rw [add_field _ _ 2 (by omega)] at hv255_2
               replace hv255_2 := Option.some.inj (hv255_2.symm.trans hx255_2)
               rw [hv255_2] at ge255_2
               have HL255_2 := Aside0.mk (show Kd.R Kd.string 9 _ _ _ _ ((rd_T30 t222 x15_2).f2) from ge255_2)
               clear hv255_2 ge255_2
               have hv255_3 := hcc255 3 _ rfl
               rw [add_field _ _ 3 (by omega)] at hv255_3
               replace hv255_3 := Option.some.inj (hv255_3.symm.trans hx255_3)
               rw [hv255_3] at ge255_3
               have HL255_3 := Aside0.mk (show Kd.R Kd.string 9 _ _ _ _ ((rd_T30 t222 x15_2).f3) from ge255_3)
               clear hv255_3 ge255_3
               clear hcc255 hce255
               have HR255_1 := Aside0.mk hi255_1
               have HC255_1 := Aside0.mk hl255_1
               clear hi255_1 hl255_1
               have HR255_2 := Aside0.mk hi255_2
               have HC255_2 := Aside0.mk hl255_2
               clear hi255_2 hl255_2
               have HR255_3 := Aside0.mk hi255_3
               have HC255_3 := Aside0.mk hl255_3
               clear hi255_3 hl255_3
               replace p255 := eq_true p255
               replace q255 := eq_true q255
               have ea_ := Option.some.inj (hx251_1.symm.trans hx255_1)
               injection ea_ with ea_ en_ ec_
               subst ea_
               subst ec_
               clear en_
               have ea_ := Option.some.inj (hx251_2.symm.trans hx255_2)
               injection ea_ with ea_ en_ ec_
               subst ea_
               subst ec_
               clear en_
               have ea_ := Option.some.inj (hx251_3.symm.trans hx255_3)
               injection ea_ with ea_ en_ ec_
               subst ea_
               subst ec_
               clear en_
               have p257 : 0 ≤ (x15_2 : Int) := of_decide_eq_true (by first | (with_reducible assumption) | assumption)
               have q257 : x15_2 < (t222.length : Int) := of_decide_eq_true (by first | (with_reducible assumption) | assumption)
               obtain ⟨ad257, A257_1, c257_1, A257_2, c257_2, A257_3, c257_3, e257, hx257_0, hx257_1, hx257_2, hx257_3, hl257_1, hi257_1, hl257_2, hi257_2, hl257_3, hi257_3⟩ := at_T30 (Kd.S_reads' HO_10.out).2.2 x15_2 p257 q257
               obtain rfl : ad239 = ad257 := (by injection e257)
               obtain ⟨ce257, hce257, hMe257, hcc257⟩ := Kd.S_get HO_10.out z30 x15_2 p257 (by first | exact q257 | exact of_decide_eq_true (by first | (with_reducible assumption) | assumption) | (have e_ := (Kd.S_reads' HO_10.out).1; omega))
               obtain ⟨ve257_1, ve257_2, ve257_3, rfl, ge257_1, ge257_2, ge257_3⟩ := k30_openM hMe257
               have hv257_1 := hcc257 1 _ rfl
               rw [add_field _ _ 1 (by omega)] at hv257_1
               replace hv257_1 := Option.some.inj (hv257_1.symm.trans hx257_1)
               rw [hv257_1] at ge257_1
               have HL257_1 := Aside0.mk (show Kd.R Kd.string 9 _ _ _ _ ((rd_T30 t222 x15_2).f1) from ge257_1)
               clear hv257_1 ge257_1
               have hv257_2 := hcc257 2 _ rfl
               rw [add_field _ _ 2 (by omega)] at hv257_2
               replace hv257_2 := Option.some.inj (hv257_2.symm.trans hx257_2)
               rw [hv257_2] at ge257_2
               have HL257_2 := Aside0.mk (show Kd.R Kd.string 9 _ _ _ _ ((rd_T30 t222 x15_2).f2) from ge257_2)
               clear hv257_2 ge257_2
               have hv257_3 := hcc257 3 _ rfl
               rw [add_field _ _ 3 (by omega)] at hv257_3
               replace hv257_3 := Option.some.inj (hv257_3.symm.trans hx257_3)
               rw [hv257_3] at ge257_3
               have HL257_3 := Aside0.mk (show Kd.R Kd.string 9 _ _ _ _ ((rd_T30 t222 x15_2).f3) from ge257_3)
               clear hv257_3 ge257_3
               clear hcc257 hce257
               have HR257_1 := Aside0.mk hi257_1
               have HC257_1 := Aside0.mk hl257_1
               clear hi257_1 hl257_1
               have HR257_2 := Aside0.mk hi257_2
               have HC257_2 := Aside0.mk hl257_2
               clear hi257_2 hl257_2
               have HR257_3 := Aside0.mk hi257_3
               have HC257_3 := Aside0.mk hl257_3
               clear hi257_3 hl257_3
               replace p257 := eq_true p257
               replace q257 := eq_true q257
               have ea_ := Option.some.inj (hx251_1.symm.trans hx257_1)
               injection ea_ with ea_ en_ ec_
               subst ea_
               subst ec_
               clear en_
               have ea_ := Option.some.inj (hx251_2.symm.trans hx257_2)
               injection ea_ with ea_ en_ ec_
               subst ea_
               subst ec_
               clear en_
               have ea_ := Option.some.inj (hx251_3.symm.trans hx257_3)
               injection ea_ with ea_ en_ ec_
               subst ea_
               subst ec_
               clear en_
               have p258 : 0 ≤ (x15_2 : Int) := of_decide_eq_true (by first | (with_reducible assumption) | assumption)
               have q258 : x15_2 < (t222.length : Int) := of_decide_eq_true (by first | (with_reducible assumption) | assumption)
               obtain ⟨ad258, A258_1, c258_1, A258_2, c258_2, A258_3, c258_3, e258, hx258_0, hx258_1, hx258_2, hx258_3, hl258_1, hi258_1, hl258_2, hi258_2, hl258_3, hi258_3⟩ := at_T30 (Kd.S_reads' HO_10.out).2.2 x15_2 p258 q258
               obtain rfl : ad239 = ad258 := (by injection e258)
               obtain ⟨ce258, hce258, hMe258, hcc258⟩ := Kd.S_get HO_10.out z30 x15_2 p258 (by first | exact q258 | exact of_decide_eq_true (by first | (with_reducible assumption) | assumption) | (have e_ := (Kd.S_reads' HO_10.out).1; omega))
               obtain ⟨ve258_1, ve258_2, ve258_3, rfl, ge258_1, ge258_2, ge258_3⟩ := k30_openM hMe258
               have hv258_1 := hcc258 1 _ rfl
               rw [add_field _ _ 1 (by omega)] at hv258_1
               replace hv258_1 := Option.some.inj (hv258_1.symm.trans hx258_1)
               rw [hv258_1] at ge258_1
               have HL258_1 := Aside0.mk (show Kd.R Kd.string 9 _ _ _ _ ((rd_T30 t222 x15_2).f1) from ge258_1)
               clear hv258_1 ge258_1
               have hv258_2 := hcc258 2 _ rfl
               rw [add_field _ _ 2 (by omega)] at hv258_2
               replace hv258_2 := Option.some.inj (hv258_2.symm.trans hx258_2)
               rw [hv258_2] at ge258_2
               have HL258_2 := Aside0.mk (show Kd.R Kd.string 9 _ _ _ _ ((rd_T30 t222 x15_2).f2) from ge258_2)
               clear hv258_2 ge258_2
               have hv258_3 := hcc258 3 _ rfl
               rw [add_field _ _ 3 (by omega)] at hv258_3
               replace hv258_3 := Option.some.inj (hv258_3.symm.trans hx258_3)
               rw [hv258_3] at ge258_3
               have HL258_3 := Aside0.mk (show Kd.R Kd.string 9 _ _ _ _ ((rd_T30 t222 x15_2).f3) from ge258_3)
               clear hv258_3 ge258_3
               clear hcc258 hce258
               have HR258_1 := Aside0.mk hi258_1
               have HC258_1 := Aside0.mk hl258_1
               clear hi258_1 hl258_1
               have HR258_2 := Aside0.mk hi258_2
               have HC258_2 := Aside0.mk hl258_2
               clear hi258_2 hl258_2
               have HR258_3 := Aside0.mk hi258_3
               have HC258_3 := Aside0.mk hl258_3
               clear hi258_3 hl258_3
               replace p258 := eq_true p258
               replace q258 := eq_true q258
               have ea_ := Option.some.inj (hx251_1.symm.trans hx258_1)
               injection ea_ with ea_ en_ ec_
               subst ea_
               subst ec_
               clear en_
               have ea_ := Option.some.inj (hx251_2.symm.trans hx258_2)
               injection ea_ with ea_ en_ ec_
               subst ea_
               subst ec_
               clear en_
               have ea_ := Option.some.inj (hx251_3.symm.trans hx258_3)
               injection ea_ with ea_ en_ ec_
               subst ea_
               subst ec_
               clear en_
               go_wp2_with fail
               go_roundg k2
               case measure => have := HJ7.out; have := HK2.out; omega
               case rel => exact ⟨(y240), (y244), (y248), (wrap64 (x15_2 + 1)), (by first | rfl | (simp; done) | (simp [*]; done)), H', ⟨by have := HJ7.out; have := HK2.out; omega⟩, ⟨by (with_reducible repeat (first | apply Kd.V_alloc | apply Kd.V_drewN | apply Kd.V_drew)); exact Kd.V_mono HO_7.out (fun _ hk => ⟨hk.1.1, ⟨hk.1.2.1, ⟨hk.1.2.2, hk.2⟩⟩⟩)⟩, ⟨by (with_reducible repeat (first | apply Kd.V_alloc | apply Kd.V_drewN | apply Kd.V_drew)); exact Kd.V_mono HO_8.out (fun _ hk => ⟨hk.1.1, ⟨hk.1.2.1, ⟨hk.1.2.2, hk.2⟩⟩⟩)⟩, ⟨by (with_reducible repeat (first | apply Kd.V_alloc | apply Kd.V_drewN | apply Kd.V_drew)); exact Kd.V_mono HO_9.out (fun _ hk => ⟨hk.1.1, ⟨hk.1.2.1, ⟨hk.1.2.2, hk.2⟩⟩⟩)⟩, ⟨by (with_reducible repeat (first | apply Kd.S_alloc | apply Kd.S_drewN | apply Kd.S_drew)); exact Kd.S_mono HO_10.out (fun _ hk => ⟨hk.1.1, ⟨hk.1.2, hk.2⟩⟩)⟩, ⟨by (with_reducible repeat (first | apply Kd.R_alloc | apply Kd.R_drewN | apply Kd.R_drew)); exact HO242.out⟩, ⟨by (with_reducible repeat (first | apply Kd.R_alloc | apply Kd.R_drewN | apply Kd.R_drew)); exact HO246.out⟩, ⟨by (with_reducible repeat (first | apply Kd.R_alloc | apply Kd.R_drewN | apply Kd.R_drew)); exact HO250.out⟩, ⟨by repeat (first | (with_reducible first | exact HB.out | apply below_alloc | apply pw_below_drewN | apply below_drew1) | exact HB.out)⟩⟩
             ·
              rw [if_neg c36] at H
              have c36b0 : decide (0 < x15_2) = false := decide_eq_false c36
              clear c36
              have H' := Aside0.mk H
              clear H
              go_wp2_with fail
              go_quiet (first | (go_at_call 7; (with_reducible refine (pollardref19_Same.calls k2 _ _ ((rd_T30 t222 x15_2).f1) _ _ ((rd_T30 t222 x15_2).f2) true _ ?side1 ?side2 ?side3 ?side4 A32.out).mono ?_); (case side1 => repeat (first | exact (by repeat (first | (with_reducible exact HR251_1.out) | (with_reducible refine Kd.C_alloc ?_ _) | (with_reducible refine Kd.C_drewN ?_ _) | (with_reducible refine Kd.C_drew ?_) | exact HR251_1.out)) | (with_reducible refine Kd.C_alloc ?_ _) | (with_reducible refine Kd.C_drewN ?_ _) | (with_reducible refine Kd.C_drew ?_))); (case side2 => exact HC251_1.out); (case side3 => repeat (first | exact (by repeat (first | (with_reducible exact HR252_2.out) | (with_reducible refine Kd.C_alloc ?_ _) | (with_reducible refine Kd.C_drewN ?_ _) | (with_reducible refine Kd.C_drew ?_) | exact HR252_2.out)) | (with_reducible refine Kd.C_alloc ?_ _) | (with_reducible refine Kd.C_drewN ?_ _) | (with_reducible refine Kd.C_drew ?_))); (case side4 => exact HC252_2.out); rintro e w' ⟨rfl, ⟨nd, rfl⟩⟩; (try first | exact ⟨rfl, _, World.drewN_drewN _ _ _⟩ | exact ⟨rfl, _, Eq.trans (World.drewN_drewN _ _ _) (congrArg (World.drewN _) (Nat.add_assoc _ _ _))⟩)) | (go_at_call 7; (with_reducible refine (pollardref19_Same.calls k2 _ _ ((rd_T30 t222 x15_2).f1) _ _ ((rd_T30 t222 x15_2).f3) t256 _ ?side1 ?side2 ?side3 ?side4 A34.out).mono ?_); (case side1 => repeat (first | exact (by repeat (first | (with_reducible exact HR251_1.out) | (with_reducible refine Kd.C_alloc ?_ _) | (with_reducible refine Kd.C_drewN ?_ _) | (with_reducible refine Kd.C_drew ?_) | exact HR251_1.out)) | (with_reducible refine Kd.C_alloc ?_ _) | (with_reducible refine Kd.C_drewN ?_ _) | (with_reducible refine Kd.C_drew ?_))); (case side2 => exact HC251_1.out); (case side3 => repeat (first | exact (by repeat (first | (with_reducible exact HR251_3.out) | (with_reducible refine Kd.C_alloc ?_ _) | (with_reducible refine Kd.C_drewN ?_ _) | (with_reducible refine Kd.C_drew ?_) | exact HR251_3.out)) | (with_reducible refine Kd.C_alloc ?_ _) | (with_reducible refine Kd.C_drewN ?_ _) | (with_reducible refine Kd.C_drew ?_))); (case side4 => exact HC251_3.out); rintro e w' ⟨rfl, ⟨nd, rfl⟩⟩; (try first | exact ⟨rfl, _, World.drewN_drewN _ _ _⟩ | exact ⟨rfl, _, Eq.trans (World.drewN_drewN _ _ _) (congrArg (World.drewN _) (Nat.add_assoc _ _ _))⟩)))
              obtain rfl : t256 = ((rd_T30 t222 x15_2).f0 == 1) := by have h_ := c35b0; revert h_; cases t256 <;> cases ((rd_T30 t222 x15_2).f0 == 1) <;> simp
              have hbb_ : (((rd_T30 t222 x15_2).f0 == 1) != ((rd_T30 t222 x15_2).f0 == 1)) = false := bne_self_eq_false _
              have p254 : 0 ≤ (x15_2 : Int) := of_decide_eq_true (by first | (with_reducible assumption) | assumption)
              have q254 : x15_2 < (t222.length : Int) := of_decide_eq_true (by first | (with_reducible assumption) | assumption)
              obtain ⟨ad254, A254_1, c254_1, A254_2, c254_2, A254_3, c254_3, e254, hx254_0, hx254_1, hx254_2, hx254_3, hl254_1, hi254_1, hl254_2, hi254_2, hl254_3, hi254_3⟩ := at_T30 (Kd.S_reads' HO_10.out).2.2 x15_2 p254 q254
              obtain rfl : ad239 = ad254 := (by injection e254)
              obtain ⟨ce254, hce254, hMe254, hcc254⟩ := Kd.S_get HO_10.out z30 x15_2 p254 (by first | exact q254 | exact of_decide_eq_true (by first | (with_reducible assumption) | assumption) | (have e_ := (Kd.S_reads' HO_10.out).1; omega))
              obtain ⟨ve254_1, ve254_2, ve254_3, rfl, ge254_1, ge254_2, ge254_3⟩ := k30_openM hMe254
              have hv254_1 := hcc254 1 _ rfl
              rw [add_field _ _ 1 (by omega)] at hv254_1
              replace hv254_1 := Option.some.inj (hv254_1.symm.trans hx254_1)
              rw [hv254_1] at ge254_1
              have HL254_1 := Aside0.mk (show Kd.R Kd.string 9 _ _ _ _ ((rd_T30 t222 x15_2).f1) from ge254_1)
              clear hv254_1 ge254_1
              have hv254_2 := hcc254 2 _ rfl
              rw [add_field _ _ 2 (by omega)] at hv254_2
              replace hv254_2 := Option.some.inj (hv254_2.symm.trans hx254_2)
              rw [hv254_2] at ge254_2
              have HL254_2 := Aside0.mk (show Kd.R Kd.string 9 _ _ _ _ ((rd_T30 t222 x15_2).f2) from ge254_2)
              clear hv254_2 ge254_2
              have hv254_3 := hcc254 3 _ rfl
              rw [add_field _ _ 3 (by omega)] at hv254_3
              replace hv254_3 := Option.some.inj (hv254_3.symm.trans hx254_3)
              rw [hv254_3] at ge254_3
              have HL254_3 := Aside0.mk (show Kd.R Kd.string 9 _ _ _ _ ((rd_T30 t222 x15_2).f3) from ge254_3)
              clear hv254_3 ge254_3
              clear hcc254 hce254
              have HR254_1 := Aside0.mk hi254_1
              have HC254_1 := Aside0.mk hl254_1
              clear hi254_1 hl254_1
              have HR254_2 := Aside0.mk hi254_2
              have HC254_2 := Aside0.mk hl254_2
              clear hi254_2 hl254_2
              have HR254_3 := Aside0.mk hi254_3
              have HC254_3 := Aside0.mk hl254_3
              clear hi254_3 hl254_3
              replace p254 := eq_true p254
              replace q254 := eq_true q254
              have ea_ := Option.some.inj (hx251_1.symm.trans hx254_1)
              injection ea_ with ea_ en_ ec_
              subst ea_
              subst ec_
              clear en_
              have ea_ := Option.some.inj (hx251_2.symm.trans hx254_2)
              injection ea_ with ea_ en_ ec_
              subst ea_
              subst ec_
              clear en_
              have ea_ := Option.some.inj (hx251_3.symm.trans hx254_3)
              injection ea_ with ea_ en_ ec_
              subst ea_
              subst ec_
              clear en_
              have p255 : 0 ≤ (x15_2 : Int) := of_decide_eq_true (by first | (with_reducible assumption) | assumption)
              have q255 : x15_2 < (t222.length : Int) := of_decide_eq_true (by first | (with_reducible assumption) | assumption)
              obtain ⟨ad255, A255_1, c255_1, A255_2, c255_2, A255_3, c255_3, e255, hx255_0, hx255_1, hx255_2, hx255_3, hl255_1, hi255_1, hl255_2, hi255_2, hl255_3, hi255_3⟩ := at_T30 (Kd.S_reads' HO_10.out).2.2 x15_2 p255 q255
              obtain rfl : ad239 = ad255 := (by injection e255)
              obtain ⟨ce255, hce255, hMe255, hcc255⟩ := Kd.S_get HO_10.out z30 x15_2 p255 (by first | exact q255 | exact of_decide_eq_true (by first | (with_reducible assumption) | assumption) | (have e_ := (Kd.S_reads' HO_10.out).1; omega))
              obtain ⟨ve255_1, ve255_2, ve255_3, rfl, ge255_1, ge255_2, ge255_3⟩ := k30_openM hMe255
              have hv255_1 := hcc255 1 _ rfl
              rw [add_field _ _ 1 (by omega)] at hv255_1
              replace hv255_1 := Option.some.inj (hv255_1.symm.trans hx255_1)
              rw [hv255_1] at ge255_1
              have HL255_1 := Aside0.mk (show Kd.R Kd.string 9 _ _ _ _ ((rd_T30 t222 x15_2).f1) from ge255_1)
              clear hv255_1 ge255_1
              have hv255_2 := hcc255 2 _ rfl
              rw [add_field _ _ 2 (by omega)] at hv255_2
              replace hv255_2 := Option.some.inj (hv255_2.symm.trans hx255_2)
              rw [hv255_2] at ge255_2
              have HL255_2 := Aside0.mk (show Kd.R Kd.string 9 _ _ _ _ ((rd_T30 t222 x15_2).f2) from ge255_2)
              clear hv255_2 ge255_2
              have hv255_3 := hcc255 3 _ rfl
              rw [add_field _ _ 3 (by omega)] at hv255_3
              replace hv255_3 := Option.some.inj (hv255_3.symm.trans hx255_3)
              rw [hv255_3] at ge255_3
              have HL255_3 := Aside0.mk (show Kd.R Kd.string 9 _ _ _ _ ((rd_T30 t222 x15_2).f3) from ge255_3)
              clear hv255_3 ge255_3
              clear hcc255 hce255
              have HR255_1 := Aside0.mk hi255_1
              have HC255_1 := Aside0.mk hl255_1
              clear hi255_1 hl255_1
              have HR255_2 := Aside0.mk hi255_2
              have HC255_2 := Aside0.mk hl255_2
              clear hi255_2 hl255_2
              have HR255_3 := Aside0.mk hi255_3
              have HC255_3 := Aside0.mk hl255_3
              clear hi255_3 hl255_3
              replace p255 := eq_true p255
              replace q255 := eq_true q255
              have ea_ := Option.some.inj (hx251_1.symm.trans hx255_1)
              injection ea_ with ea_ en_ ec_
              subst ea_
              subst ec_
              clear en_
              have ea_ := Option.some.inj (hx251_2.symm.trans hx255_2)
              injection ea_ with ea_ en_ ec_
              subst ea_
              subst ec_
              clear en_
              have ea_ := Option.some.inj (hx251_3.symm.trans hx255_3)
              injection ea_ with ea_ en_ ec_
              subst ea_
              subst ec_
              clear en_
              have p257 : 0 ≤ (x15_2 : Int) := of_decide_eq_true (by first | (with_reducible assumption) | assumption)
              have q257 : x15_2 < (t222.length : Int) := of_decide_eq_true (by first | (with_reducible assumption) | assumption)
              obtain ⟨ad257, A257_1, c257_1, A257_2, c257_2, A257_3, c257_3, e257, hx257_0, hx257_1, hx257_2, hx257_3, hl257_1, hi257_1, hl257_2, hi257_2, hl257_3, hi257_3⟩ := at_T30 (Kd.S_reads' HO_10.out).2.2 x15_2 p257 q257
              obtain rfl : ad239 = ad257 := (by injection e257)
              obtain ⟨ce257, hce257, hMe257, hcc257⟩ := Kd.S_get HO_10.out z30 x15_2 p257 (by first | exact q257 | exact of_decide_eq_true (by first | (with_reducible assumption) | assumption) | (have e_ := (Kd.S_reads' HO_10.out).1; omega))
              obtain ⟨ve257_1, ve257_2, ve257_3, rfl, ge257_1, ge257_2, ge257_3⟩ := k30_openM hMe257
              have hv257_1 := hcc257 1 _ rfl
              rw [add_field _ _ 1 (by omega)] at hv257_1
              replace hv257_1 := Option.some.inj (hv257_1.symm.trans hx257_1)
              rw [hv257_1] at ge257_1
              have HL257_1 := Aside0.mk (show Kd.R Kd.string 9 _ _ _ _ ((rd_T30 t222 x15_2).f1) from ge257_1)
              clear hv257_1 ge257_1
              have hv257_2 := hcc257 2 _ rfl
              rw [add_field _ _ 2 (by omega)] at hv257_2
              replace hv257_2 := Option.some.inj (hv257_2.symm.trans hx257_2)
              rw [hv257_2] at ge257_2
              have HL257_2 := Aside0.mk (show Kd.R Kd.string 9 _ _ _ _ ((rd_T30 t222 x15_2).f2) from ge257_2)
              clear hv257_2 ge257_2
              have hv257_3 := hcc257 3 _ rfl
              rw [add_field _ _ 3 (by omega)] at hv257_3
              replace hv257_3 := Option.some.inj (hv257_3.symm.trans hx257_3)
              rw [hv257_3] at ge257_3
              have HL257_3 := Aside0.mk (show Kd.R Kd.string 9 _ _ _ _ ((rd_T30 t222 x15_2).f3) from ge257_3)
              clear hv257_3 ge257_3
              clear hcc257 hce257
              have HR257_1 := Aside0.mk hi257_1
              have HC257_1 := Aside0.mk hl257_1
              clear hi257_1 hl257_1
              have HR257_2 := Aside0.mk hi257_2
              have HC257_2 := Aside0.mk hl257_2
              clear hi257_2 hl257_2
              have HR257_3 := Aside0.mk hi257_3
              have HC257_3 := Aside0.mk hl257_3
              clear hi257_3 hl257_3
              replace p257 := eq_true p257
              replace q257 := eq_true q257
              have ea_ := Option.some.inj (hx251_1.symm.trans hx257_1)
              injection ea_ with ea_ en_ ec_
              subst ea_
              subst ec_
              clear en_
              have ea_ := Option.some.inj (hx251_2.symm.trans hx257_2)
              injection ea_ with ea_ en_ ec_
              subst ea_
              subst ec_
              clear en_
              have ea_ := Option.some.inj (hx251_3.symm.trans hx257_3)
              injection ea_ with ea_ en_ ec_
              subst ea_
              subst ec_
              clear en_
              go_wp2_with fail
              go_roundg k2
              case measure => have := HJ7.out; have := HK2.out; omega
              case rel => exact ⟨(y240), (y244), (y248), (wrap64 (x15_2 + 1)), (by first | rfl | (simp; done) | (simp [*]; done)), H', ⟨by have := HJ7.out; have := HK2.out; omega⟩, ⟨by (with_reducible repeat (first | apply Kd.V_alloc | apply Kd.V_drewN | apply Kd.V_drew)); exact Kd.V_mono HO_7.out (fun _ hk => ⟨hk.1.1, ⟨hk.1.2.1, ⟨hk.1.2.2, hk.2⟩⟩⟩)⟩, ⟨by (with_reducible repeat (first | apply Kd.V_alloc | apply Kd.V_drewN | apply Kd.V_drew)); exact Kd.V_mono HO_8.out (fun _ hk => ⟨hk.1.1, ⟨hk.1.2.1, ⟨hk.1.2.2, hk.2⟩⟩⟩)⟩, ⟨by (with_reducible repeat (first | apply Kd.V_alloc | apply Kd.V_drewN | apply Kd.V_drew)); exact Kd.V_mono HO_9.out (fun _ hk => ⟨hk.1.1, ⟨hk.1.2.1, ⟨hk.1.2.2, hk.2⟩⟩⟩)⟩, ⟨by (with_reducible repeat (first | apply Kd.S_alloc | apply Kd.S_drewN | apply Kd.S_drew)); exact Kd.S_mono HO_10.out (fun _ hk => ⟨hk.1.1, ⟨hk.1.2, hk.2⟩⟩)⟩, ⟨by (with_reducible repeat (first | apply Kd.R_alloc | apply Kd.R_drewN | apply Kd.R_drew)); exact HO242.out⟩, ⟨by (with_reducible repeat (first | apply Kd.R_alloc | apply Kd.R_drewN | apply Kd.R_drew)); exact HO246.out⟩, ⟨by (with_reducible repeat (first | apply Kd.R_alloc | apply Kd.R_drewN | apply Kd.R_drew)); exact HO250.out⟩, ⟨by repeat (first | (with_reducible first | exact HB.out | apply below_alloc | apply pw_below_drewN | apply below_drew1) | exact HB.out)⟩⟩
           ·
            replace c33 := Bool.eq_false_iff.mpr c33
            subst c33
            have H1 : (if ((((rd_T30 t222 x15_2).f0) == 1) != false) = true then (none) else (if x15_2 > 0 then (if ((rd_T30 t222 x15_2).f0) = 1 then (if 0 ≤ (wrap64 (x15_2 - 1)) then (if (wrap64 (x15_2 - 1)) < (t222.length : Int) then (if ((rd_T30 t222 (wrap64 (x15_2 - 1))).f0) = 1 then (none) else (pollardlaw19_MergeCovers.l0 k2 t213 t216 t219 t222 y240 y244 y248 (wrap64 (x15_2 + 1)))) else (none)) else (none)) else (pollardlaw19_MergeCovers.l0 k2 t213 t216 t219 t222 y240 y244 y248 (wrap64 (x15_2 + 1)))) else (pollardlaw19_MergeCovers.l0 k2 t213 t216 t219 t222 y240 y244 y248 (wrap64 (x15_2 + 1))))) = some r := by rw [if_neg (show ¬ (false = true) by decide)] at H; exact H
            clear H
            have H := H1
            clear H1
            by_cases c54 : ((((rd_T30 t222 x15_2).f0) == 1) != false) = true
            · rw [if_pos c54] at H
              exact absurd H (by simp)
            ·
             rw [if_neg c54] at H
             have c54b0 : ((((rd_T30 t222 x15_2).f0) == 1) != false) = false := by simpa using c54
             (try (have c54b1 : decide ((((rd_T30 t222 x15_2).f0) == 1) = false) = true := by simpa using c54))
             (try (have c54b2 : ((((rd_T30 t222 x15_2).f0) == 1) == false) = true := by simpa using c54))
             clear c54
             by_cases c55 : x15_2 > 0
             ·
              rw [if_pos c55] at H
              have c55b0 : decide (0 < x15_2) = true := decide_eq_true c55
              clear c55
              by_cases c56 : ((rd_T30 t222 x15_2).f0) = 1
              ·
               rw [if_pos c56] at H
               have c56b0 : (((rd_T30 t222 x15_2).f0) == 1) = true := beq_iff_eq.mpr c56
               have c56b1 : (((rd_T30 t222 x15_2).f0) != 1) = false := bne_eq_false_iff_eq.mpr c56
               clear c56
               obtain ⟨ji57, hji57⟩ : ∃ j_ : Int, (wrap64 (x15_2 - 1)) = j_ := ⟨_, rfl⟩
               replace H : (if 0 ≤ (ji57) then (if (ji57) < (t222.length : Int) then (if ((rd_T30 t222 (ji57)).f0) = 1 then (none) else (pollardlaw19_MergeCovers.l0 k2 t213 t216 t219 t222 y240 y244 y248 (wrap64 (x15_2 + 1)))) else (none)) else (none)) = some r := by first | (rw [hji57] at H; exact H) | (simp only [hji57] at H ⊢; exact H)
               (try rw [hji57] at A32)
               have hji57w : (IntKind.i64.wrap (x15_2 - 1)) = ji57 := (i64_w _).trans hji57
               by_cases c58 : 0 ≤ (ji57)
               ·
                rw [if_pos c58] at H
                have c58b0 : decide (0 ≤ (ji57)) = true := decide_eq_true c58
                clear c58
                by_cases c59 : (ji57) < (t222.length : Int)
                ·
                 rw [if_pos c59] at H
                 have c59b0 : decide ((ji57) < (t222.length : Int)) = true := decide_eq_true c59
                 clear c59
                 by_cases c60 : ((rd_T30 t222 (ji57)).f0) = 1
                 · rw [if_pos c60] at H
                   exact absurd H (by simp)
                 ·
                  rw [if_neg c60] at H
                  have c60b0 : (((rd_T30 t222 (ji57)).f0) == 1) = false := beq_eq_false_iff_ne.mpr c60
                  have c60b1 : (((rd_T30 t222 (ji57)).f0) != 1) = true := bne_iff_ne.mpr c60
                  have H' := Aside0.mk H
                  clear H
                  have hff_ : ((rd_T30 t222 x15_2).f0 == 1) = false := by simpa using c54b0
                  exact absurd (c56b0.symm.trans hff_) (by decide)
                · rw [if_neg c59] at H
                  exact absurd H (by simp)
               · rw [if_neg c58] at H
                 exact absurd H (by simp)
              ·
               rw [if_neg c56] at H
               have c56b0 : (((rd_T30 t222 x15_2).f0) == 1) = false := beq_eq_false_iff_ne.mpr c56
               have c56b1 : (((rd_T30 t222 x15_2).f0) != 1) = true := bne_iff_ne.mpr c56
               have H' := Aside0.mk H
               clear H
               have hff_ : ((rd_T30 t222 x15_2).f0 == 1) = false := by simpa using c54b0
               go_wp2_with fail
               go_quiet (first | (go_at_call 7; (with_reducible refine (pollardref19_Same.calls k2 _ _ ((rd_T30 t222 x15_2).f1) _ _ ((rd_T30 t222 x15_2).f2) false _ ?side1 ?side2 ?side3 ?side4 A32.out).mono ?_); (case side1 => repeat (first | exact (by repeat (first | (with_reducible exact HR251_1.out) | (with_reducible refine Kd.C_alloc ?_ _) | (with_reducible refine Kd.C_drewN ?_ _) | (with_reducible refine Kd.C_drew ?_) | exact HR251_1.out)) | (with_reducible refine Kd.C_alloc ?_ _) | (with_reducible refine Kd.C_drewN ?_ _) | (with_reducible refine Kd.C_drew ?_))); (case side2 => exact HC251_1.out); (case side3 => repeat (first | exact (by repeat (first | (with_reducible exact HR252_2.out) | (with_reducible refine Kd.C_alloc ?_ _) | (with_reducible refine Kd.C_drewN ?_ _) | (with_reducible refine Kd.C_drew ?_) | exact HR252_2.out)) | (with_reducible refine Kd.C_alloc ?_ _) | (with_reducible refine Kd.C_drewN ?_ _) | (with_reducible refine Kd.C_drew ?_))); (case side4 => exact HC252_2.out); rintro e w' ⟨rfl, ⟨nd, rfl⟩⟩; (try first | exact ⟨rfl, _, World.drewN_drewN _ _ _⟩ | exact ⟨rfl, _, Eq.trans (World.drewN_drewN _ _ _) (congrArg (World.drewN _) (Nat.add_assoc _ _ _))⟩)))
               have p260 : 0 ≤ (x15_2 : Int) := of_decide_eq_true (by first | (with_reducible assumption) | assumption)
               have q260 : x15_2 < (t222.length : Int) := of_decide_eq_true (by first | (with_reducible assumption) | assumption)
               obtain ⟨ad260, A260_1, c260_1, A260_2, c260_2, A260_3, c260_3, e260, hx260_0, hx260_1, hx260_2, hx260_3, hl260_1, hi260_1, hl260_2, hi260_2, hl260_3, hi260_3⟩ := at_T30 (Kd.S_reads' HO_10.out).2.2 x15_2 p260 q260
               obtain rfl : ad239 = ad260 := (by injection e260)
               obtain ⟨ce260, hce260, hMe260, hcc260⟩ := Kd.S_get HO_10.out z30 x15_2 p260 (by first | exact q260 | exact of_decide_eq_true (by first | (with_reducible assumption) | assumption) | (have e_ := (Kd.S_reads' HO_10.out).1; omega))
               obtain ⟨ve260_1, ve260_2, ve260_3, rfl, ge260_1, ge260_2, ge260_3⟩ := k30_openM hMe260
               have hv260_1 := hcc260 1 _ rfl
               rw [add_field _ _ 1 (by omega)] at hv260_1
               replace hv260_1 := Option.some.inj (hv260_1.symm.trans hx260_1)
               rw [hv260_1] at ge260_1
               have HL260_1 := Aside0.mk (show Kd.R Kd.string 9 _ _ _ _ ((rd_T30 t222 x15_2).f1) from ge260_1)
               clear hv260_1 ge260_1
               have hv260_2 := hcc260 2 _ rfl
               rw [add_field _ _ 2 (by omega)] at hv260_2
               replace hv260_2 := Option.some.inj (hv260_2.symm.trans hx260_2)
               rw [hv260_2] at ge260_2
               have HL260_2 := Aside0.mk (show Kd.R Kd.string 9 _ _ _ _ ((rd_T30 t222 x15_2).f2) from ge260_2)
               clear hv260_2 ge260_2
               have hv260_3 := hcc260 3 _ rfl
               rw [add_field _ _ 3 (by omega)] at hv260_3
               replace hv260_3 := Option.some.inj (hv260_3.symm.trans hx260_3)
               rw [hv260_3] at ge260_3
               have HL260_3 := Aside0.mk (show Kd.R Kd.string 9 _ _ _ _ ((rd_T30 t222 x15_2).f3) from ge260_3)
               clear hv260_3 ge260_3
               clear hcc260 hce260
               have HR260_1 := Aside0.mk hi260_1
               have HC260_1 := Aside0.mk hl260_1
               clear hi260_1 hl260_1
               have HR260_2 := Aside0.mk hi260_2
               have HC260_2 := Aside0.mk hl260_2
               clear hi260_2 hl260_2
               have HR260_3 := Aside0.mk hi260_3
               have HC260_3 := Aside0.mk hl260_3
               clear hi260_3 hl260_3
               replace p260 := eq_true p260
               replace q260 := eq_true q260
               have ea_ := Option.some.inj (hx251_1.symm.trans hx260_1)
               injection ea_ with ea_ en_ ec_
               subst ea_
               subst ec_
               clear en_
               have ea_ := Option.some.inj (hx251_2.symm.trans hx260_2)
               injection ea_ with ea_ en_ ec_
               subst ea_
               subst ec_
               clear en_
               have ea_ := Option.some.inj (hx251_3.symm.trans hx260_3)
               injection ea_ with ea_ en_ ec_
               subst ea_
               subst ec_
               clear en_
               have p261 : 0 ≤ (x15_2 : Int) := of_decide_eq_true (by first | (with_reducible assumption) | assumption)
               have q261 : x15_2 < (t222.length : Int) := of_decide_eq_true (by first | (with_reducible assumption) | assumption)
               obtain ⟨ad261, A261_1, c261_1, A261_2, c261_2, A261_3, c261_3, e261, hx261_0, hx261_1, hx261_2, hx261_3, hl261_1, hi261_1, hl261_2, hi261_2, hl261_3, hi261_3⟩ := at_T30 (Kd.S_reads' HO_10.out).2.2 x15_2 p261 q261
               obtain rfl : ad239 = ad261 := (by injection e261)
               obtain ⟨ce261, hce261, hMe261, hcc261⟩ := Kd.S_get HO_10.out z30 x15_2 p261 (by first | exact q261 | exact of_decide_eq_true (by first | (with_reducible assumption) | assumption) | (have e_ := (Kd.S_reads' HO_10.out).1; omega))
               obtain ⟨ve261_1, ve261_2, ve261_3, rfl, ge261_1, ge261_2, ge261_3⟩ := k30_openM hMe261
               have hv261_1 := hcc261 1 _ rfl
               rw [add_field _ _ 1 (by omega)] at hv261_1
               replace hv261_1 := Option.some.inj (hv261_1.symm.trans hx261_1)
               rw [hv261_1] at ge261_1
               have HL261_1 := Aside0.mk (show Kd.R Kd.string 9 _ _ _ _ ((rd_T30 t222 x15_2).f1) from ge261_1)
               clear hv261_1 ge261_1
               have hv261_2 := hcc261 2 _ rfl
               rw [add_field _ _ 2 (by omega)] at hv261_2
               replace hv261_2 := Option.some.inj (hv261_2.symm.trans hx261_2)
               rw [hv261_2] at ge261_2
               have HL261_2 := Aside0.mk (show Kd.R Kd.string 9 _ _ _ _ ((rd_T30 t222 x15_2).f2) from ge261_2)
               clear hv261_2 ge261_2
               have hv261_3 := hcc261 3 _ rfl
               rw [add_field _ _ 3 (by omega)] at hv261_3
               replace hv261_3 := Option.some.inj (hv261_3.symm.trans hx261_3)
               rw [hv261_3] at ge261_3
               have HL261_3 := Aside0.mk (show Kd.R Kd.string 9 _ _ _ _ ((rd_T30 t222 x15_2).f3) from ge261_3)
               clear hv261_3 ge261_3
               clear hcc261 hce261
               have HR261_1 := Aside0.mk hi261_1
               have HC261_1 := Aside0.mk hl261_1
               clear hi261_1 hl261_1
               have HR261_2 := Aside0.mk hi261_2
               have HC261_2 := Aside0.mk hl261_2
               clear hi261_2 hl261_2
               have HR261_3 := Aside0.mk hi261_3
               have HC261_3 := Aside0.mk hl261_3
               clear hi261_3 hl261_3
               replace p261 := eq_true p261
               replace q261 := eq_true q261
               have ea_ := Option.some.inj (hx251_1.symm.trans hx261_1)
               injection ea_ with ea_ en_ ec_
               subst ea_
               subst ec_
               clear en_
               have ea_ := Option.some.inj (hx251_2.symm.trans hx261_2)
               injection ea_ with ea_ en_ ec_
               subst ea_
               subst ec_
               clear en_
               have ea_ := Option.some.inj (hx251_3.symm.trans hx261_3)
               injection ea_ with ea_ en_ ec_
               subst ea_
               subst ec_
               clear en_
               go_wp2_with fail
               go_roundg k2
               case measure => have := HJ7.out; have := HK2.out; omega
               case rel => exact ⟨(y240), (y244), (y248), (wrap64 (x15_2 + 1)), (by first | rfl | (simp; done) | (simp [*]; done)), H', ⟨by have := HJ7.out; have := HK2.out; omega⟩, ⟨by (with_reducible repeat (first | apply Kd.V_alloc | apply Kd.V_drewN | apply Kd.V_drew)); exact Kd.V_mono HO_7.out (fun _ hk => ⟨hk.1.1, ⟨hk.1.2.1, ⟨hk.1.2.2, hk.2⟩⟩⟩)⟩, ⟨by (with_reducible repeat (first | apply Kd.V_alloc | apply Kd.V_drewN | apply Kd.V_drew)); exact Kd.V_mono HO_8.out (fun _ hk => ⟨hk.1.1, ⟨hk.1.2.1, ⟨hk.1.2.2, hk.2⟩⟩⟩)⟩, ⟨by (with_reducible repeat (first | apply Kd.V_alloc | apply Kd.V_drewN | apply Kd.V_drew)); exact Kd.V_mono HO_9.out (fun _ hk => ⟨hk.1.1, ⟨hk.1.2.1, ⟨hk.1.2.2, hk.2⟩⟩⟩)⟩, ⟨by (with_reducible repeat (first | apply Kd.S_alloc | apply Kd.S_drewN | apply Kd.S_drew)); exact Kd.S_mono HO_10.out (fun _ hk => ⟨hk.1.1, ⟨hk.1.2, hk.2⟩⟩)⟩, ⟨by (with_reducible repeat (first | apply Kd.R_alloc | apply Kd.R_drewN | apply Kd.R_drew)); exact HO242.out⟩, ⟨by (with_reducible repeat (first | apply Kd.R_alloc | apply Kd.R_drewN | apply Kd.R_drew)); exact HO246.out⟩, ⟨by (with_reducible repeat (first | apply Kd.R_alloc | apply Kd.R_drewN | apply Kd.R_drew)); exact HO250.out⟩, ⟨by repeat (first | (with_reducible first | exact HB.out | apply below_alloc | apply pw_below_drewN | apply below_drew1) | exact HB.out)⟩⟩
             ·
              rw [if_neg c55] at H
              have c55b0 : decide (0 < x15_2) = false := decide_eq_false c55
              clear c55
              have H' := Aside0.mk H
              clear H
              have hff_ : ((rd_T30 t222 x15_2).f0 == 1) = false := by simpa using c54b0
              go_wp2_with fail
              go_quiet (first | (go_at_call 7; (with_reducible refine (pollardref19_Same.calls k2 _ _ ((rd_T30 t222 x15_2).f1) _ _ ((rd_T30 t222 x15_2).f2) false _ ?side1 ?side2 ?side3 ?side4 A32.out).mono ?_); (case side1 => repeat (first | exact (by repeat (first | (with_reducible exact HR251_1.out) | (with_reducible refine Kd.C_alloc ?_ _) | (with_reducible refine Kd.C_drewN ?_ _) | (with_reducible refine Kd.C_drew ?_) | exact HR251_1.out)) | (with_reducible refine Kd.C_alloc ?_ _) | (with_reducible refine Kd.C_drewN ?_ _) | (with_reducible refine Kd.C_drew ?_))); (case side2 => exact HC251_1.out); (case side3 => repeat (first | exact (by repeat (first | (with_reducible exact HR252_2.out) | (with_reducible refine Kd.C_alloc ?_ _) | (with_reducible refine Kd.C_drewN ?_ _) | (with_reducible refine Kd.C_drew ?_) | exact HR252_2.out)) | (with_reducible refine Kd.C_alloc ?_ _) | (with_reducible refine Kd.C_drewN ?_ _) | (with_reducible refine Kd.C_drew ?_))); (case side4 => exact HC252_2.out); rintro e w' ⟨rfl, ⟨nd, rfl⟩⟩; (try first | exact ⟨rfl, _, World.drewN_drewN _ _ _⟩ | exact ⟨rfl, _, Eq.trans (World.drewN_drewN _ _ _) (congrArg (World.drewN _) (Nat.add_assoc _ _ _))⟩)))
              have p260 : 0 ≤ (x15_2 : Int) := of_decide_eq_true (by first | (with_reducible assumption) | assumption)
              have q260 : x15_2 < (t222.length : Int) := of_decide_eq_true (by first | (with_reducible assumption) | assumption)
              obtain ⟨ad260, A260_1, c260_1, A260_2, c260_2, A260_3, c260_3, e260, hx260_0, hx260_1, hx260_2, hx260_3, hl260_1, hi260_1, hl260_2, hi260_2, hl260_3, hi260_3⟩ := at_T30 (Kd.S_reads' HO_10.out).2.2 x15_2 p260 q260
              obtain rfl : ad239 = ad260 := (by injection e260)
              obtain ⟨ce260, hce260, hMe260, hcc260⟩ := Kd.S_get HO_10.out z30 x15_2 p260 (by first | exact q260 | exact of_decide_eq_true (by first | (with_reducible assumption) | assumption) | (have e_ := (Kd.S_reads' HO_10.out).1; omega))
              obtain ⟨ve260_1, ve260_2, ve260_3, rfl, ge260_1, ge260_2, ge260_3⟩ := k30_openM hMe260
              have hv260_1 := hcc260 1 _ rfl
              rw [add_field _ _ 1 (by omega)] at hv260_1
              replace hv260_1 := Option.some.inj (hv260_1.symm.trans hx260_1)
              rw [hv260_1] at ge260_1
              have HL260_1 := Aside0.mk (show Kd.R Kd.string 9 _ _ _ _ ((rd_T30 t222 x15_2).f1) from ge260_1)
              clear hv260_1 ge260_1
              have hv260_2 := hcc260 2 _ rfl
              rw [add_field _ _ 2 (by omega)] at hv260_2
              replace hv260_2 := Option.some.inj (hv260_2.symm.trans hx260_2)
              rw [hv260_2] at ge260_2
              have HL260_2 := Aside0.mk (show Kd.R Kd.string 9 _ _ _ _ ((rd_T30 t222 x15_2).f2) from ge260_2)
              clear hv260_2 ge260_2
              have hv260_3 := hcc260 3 _ rfl
              rw [add_field _ _ 3 (by omega)] at hv260_3
              replace hv260_3 := Option.some.inj (hv260_3.symm.trans hx260_3)
              rw [hv260_3] at ge260_3
              have HL260_3 := Aside0.mk (show Kd.R Kd.string 9 _ _ _ _ ((rd_T30 t222 x15_2).f3) from ge260_3)
              clear hv260_3 ge260_3
              clear hcc260 hce260
              have HR260_1 := Aside0.mk hi260_1
              have HC260_1 := Aside0.mk hl260_1
              clear hi260_1 hl260_1
              have HR260_2 := Aside0.mk hi260_2
              have HC260_2 := Aside0.mk hl260_2
              clear hi260_2 hl260_2
              have HR260_3 := Aside0.mk hi260_3
              have HC260_3 := Aside0.mk hl260_3
              clear hi260_3 hl260_3
              replace p260 := eq_true p260
              replace q260 := eq_true q260
              have ea_ := Option.some.inj (hx251_1.symm.trans hx260_1)
              injection ea_ with ea_ en_ ec_
              subst ea_
              subst ec_
              clear en_
              have ea_ := Option.some.inj (hx251_2.symm.trans hx260_2)
              injection ea_ with ea_ en_ ec_
              subst ea_
              subst ec_
              clear en_
              have ea_ := Option.some.inj (hx251_3.symm.trans hx260_3)
              injection ea_ with ea_ en_ ec_
              subst ea_
              subst ec_
              clear en_
              go_wp2_with fail
              go_roundg k2
              case measure => have := HJ7.out; have := HK2.out; omega
              case rel => exact ⟨(y240), (y244), (y248), (wrap64 (x15_2 + 1)), (by first | rfl | (simp; done) | (simp [*]; done)), H', ⟨by have := HJ7.out; have := HK2.out; omega⟩, ⟨by (with_reducible repeat (first | apply Kd.V_alloc | apply Kd.V_drewN | apply Kd.V_drew)); exact Kd.V_mono HO_7.out (fun _ hk => ⟨hk.1.1, ⟨hk.1.2.1, ⟨hk.1.2.2, hk.2⟩⟩⟩)⟩, ⟨by (with_reducible repeat (first | apply Kd.V_alloc | apply Kd.V_drewN | apply Kd.V_drew)); exact Kd.V_mono HO_8.out (fun _ hk => ⟨hk.1.1, ⟨hk.1.2.1, ⟨hk.1.2.2, hk.2⟩⟩⟩)⟩, ⟨by (with_reducible repeat (first | apply Kd.V_alloc | apply Kd.V_drewN | apply Kd.V_drew)); exact Kd.V_mono HO_9.out (fun _ hk => ⟨hk.1.1, ⟨hk.1.2.1, ⟨hk.1.2.2, hk.2⟩⟩⟩)⟩, ⟨by (with_reducible repeat (first | apply Kd.S_alloc | apply Kd.S_drewN | apply Kd.S_drew)); exact Kd.S_mono HO_10.out (fun _ hk => ⟨hk.1.1, ⟨hk.1.2, hk.2⟩⟩)⟩, ⟨by (with_reducible repeat (first | apply Kd.R_alloc | apply Kd.R_drewN | apply Kd.R_drew)); exact HO242.out⟩, ⟨by (with_reducible repeat (first | apply Kd.R_alloc | apply Kd.R_drewN | apply Kd.R_drew)); exact HO246.out⟩, ⟨by (with_reducible repeat (first | apply Kd.R_alloc | apply Kd.R_drewN | apply Kd.R_drew)); exact HO250.out⟩, ⟨by repeat (first | (with_reducible first | exact HB.out | apply below_alloc | apply pw_below_drewN | apply below_drew1) | exact HB.out)⟩⟩
          · rw [if_neg c31] at H
            exact absurd H (by simp)
         · rw [if_neg c30] at H
           exact absurd H (by simp)
        · rw [if_neg c29] at H
          exact absurd H (by simp)
       · rw [if_neg c28] at H
         exact absurd H (by simp)
      ·
       rw [if_neg c27] at H
       have c27b0 : decide (x15_2 < (t222.length : Int)) = false := decide_eq_false c27
       clear c27
       replace H := Option.bind_eq_some_iff.mp H
       obtain ⟨t236, A730, H⟩ := H
       replace H : (if t236 = true then ((pollardref19_Same.f k2 x13_2 t216).bind fun t237 => (if t237 = true then ((pollardref19_Same.f k2 x14_2 t219).bind fun t238 => (some t238)) else (none))) else (none)) = some r := H
       have A73 := Aside0.mk A730
       clear A730
       by_cases c74 : t236 = true
       ·
        subst c74
        have H1 : ((pollardref19_Same.f k2 x13_2 t216).bind fun t237 => (if t237 = true then ((pollardref19_Same.f k2 x14_2 t219).bind fun t238 => (some t238)) else (none))) = some r := by rw [if_pos rfl] at H; exact H
        clear H
        have H := H1
        clear H1
        replace H := Option.bind_eq_some_iff.mp H
        obtain ⟨t237, A750, H⟩ := H
        replace H : (if t237 = true then ((pollardref19_Same.f k2 x14_2 t219).bind fun t238 => (some t238)) else (none)) = some r := H
        have A75 := Aside0.mk A750
        clear A750
        by_cases c76 : t237 = true
        ·
         subst c76
         have H1 : ((pollardref19_Same.f k2 x14_2 t219).bind fun t238 => (some t238)) = some r := by rw [if_pos rfl] at H; exact H
         clear H
         have H := H1
         clear H1
         replace H := Option.bind_eq_some_iff.mp H
         obtain ⟨t238, A770, H⟩ := H
         replace H : (some t238) = some r := H
         have A77 := Aside0.mk A770
         clear A770
         obtain rfl := Option.some.inj H
         obtain ⟨Ao78, co78, eo78⟩ := Kd.S_slice HO_10.out
         subst eo78
         obtain ⟨Ao79, co79, eo79⟩ := Kd.R_slice HO_12.out
         subst eo79
         go_wp2_with (first | (go_at_call 7; (with_reducible refine (pollardref19_Same.calls k2 _ _ x12_2 _ _ t213 true _ ?side1 ?side2 ?side3 ?side4 A73.out).mono ?_); (case side1 => repeat (first | exact (Kd.R_reads' HO_12.out).2.2 | (with_reducible refine Kd.C_alloc ?_ _) | (with_reducible refine Kd.C_drewN ?_ _) | (with_reducible refine Kd.C_drew ?_))); (case side2 => exact (Kd.R_reads' HO_12.out).2.1); (case side3 => repeat (first | exact (Kd.V_reads' HO_7.out).2.2 | (with_reducible refine Kd.C_alloc ?_ _) | (with_reducible refine Kd.C_drewN ?_ _) | (with_reducible refine Kd.C_drew ?_))); (case side4 => exact (Kd.V_reads' HO_7.out).2.1); rintro e w' ⟨rfl, ⟨nd, rfl⟩⟩; (try first | exact ⟨rfl, _, World.drewN_drewN _ _ _⟩ | exact ⟨rfl, _, Eq.trans (World.drewN_drewN _ _ _) (congrArg (World.drewN _) (Nat.add_assoc _ _ _))⟩); obtain ⟨Ao80, co80, eo80⟩ := Kd.R_slice HO_13.out; subst eo80) | (go_at_call 7; (with_reducible refine (pollardref19_Same.calls k2 _ _ x13_2 _ _ t216 true _ ?side1 ?side2 ?side3 ?side4 A75.out).mono ?_); (case side1 => repeat (first | exact (Kd.R_reads' HO_13.out).2.2 | (with_reducible refine Kd.C_alloc ?_ _) | (with_reducible refine Kd.C_drewN ?_ _) | (with_reducible refine Kd.C_drew ?_))); (case side2 => exact (Kd.R_reads' HO_13.out).2.1); (case side3 => repeat (first | exact (Kd.V_reads' HO_8.out).2.2 | (with_reducible refine Kd.C_alloc ?_ _) | (with_reducible refine Kd.C_drewN ?_ _) | (with_reducible refine Kd.C_drew ?_))); (case side4 => exact (Kd.V_reads' HO_8.out).2.1); rintro e w' ⟨rfl, ⟨nd, rfl⟩⟩; (try first | exact ⟨rfl, _, World.drewN_drewN _ _ _⟩ | exact ⟨rfl, _, Eq.trans (World.drewN_drewN _ _ _) (congrArg (World.drewN _) (Nat.add_assoc _ _ _))⟩); obtain ⟨Ao81, co81, eo81⟩ := Kd.R_slice HO_14.out; subst eo81) | (go_at_call 7; (with_reducible refine (pollardref19_Same.calls k2 _ _ x14_2 _ _ t219 t238 _ ?side1 ?side2 ?side3 ?side4 A77.out).mono ?_); (case side1 => repeat (first | exact (Kd.R_reads' HO_14.out).2.2 | (with_reducible refine Kd.C_alloc ?_ _) | (with_reducible refine Kd.C_drewN ?_ _) | (with_reducible refine Kd.C_drew ?_))); (case side2 => exact (Kd.R_reads' HO_14.out).2.1); (case side3 => repeat (first | exact (Kd.V_reads' HO_9.out).2.2 | (with_reducible refine Kd.C_alloc ?_ _) | (with_reducible refine Kd.C_drewN ?_ _) | (with_reducible refine Kd.C_drew ?_))); (case side4 => exact (Kd.V_reads' HO_9.out).2.1); rintro e w' ⟨rfl, ⟨nd, rfl⟩⟩; (try first | exact ⟨rfl, _, World.drewN_drewN _ _ _⟩ | exact ⟨rfl, _, Eq.trans (World.drewN_drewN _ _ _) (congrArg (World.drewN _) (Nat.add_assoc _ _ _))⟩)))
         repeat (go_quiet (first | (go_at_call 7; (with_reducible refine (pollardref19_Same.calls k2 _ _ x12_2 _ _ t213 true _ ?side1 ?side2 ?side3 ?side4 A73.out).mono ?_); (case side1 => repeat (first | exact (Kd.R_reads' HO_12.out).2.2 | (with_reducible refine Kd.C_alloc ?_ _) | (with_reducible refine Kd.C_drewN ?_ _) | (with_reducible refine Kd.C_drew ?_))); (case side2 => exact (Kd.R_reads' HO_12.out).2.1); (case side3 => repeat (first | exact (Kd.V_reads' HO_7.out).2.2 | (with_reducible refine Kd.C_alloc ?_ _) | (with_reducible refine Kd.C_drewN ?_ _) | (with_reducible refine Kd.C_drew ?_))); (case side4 => exact (Kd.V_reads' HO_7.out).2.1); rintro e w' ⟨rfl, ⟨nd, rfl⟩⟩; (try first | exact ⟨rfl, _, World.drewN_drewN _ _ _⟩ | exact ⟨rfl, _, Eq.trans (World.drewN_drewN _ _ _) (congrArg (World.drewN _) (Nat.add_assoc _ _ _))⟩); obtain ⟨Ao80, co80, eo80⟩ := Kd.R_slice HO_13.out; subst eo80) | (go_at_call 7; (with_reducible refine (pollardref19_Same.calls k2 _ _ x13_2 _ _ t216 true _ ?side1 ?side2 ?side3 ?side4 A75.out).mono ?_); (case side1 => repeat (first | exact (Kd.R_reads' HO_13.out).2.2 | (with_reducible refine Kd.C_alloc ?_ _) | (with_reducible refine Kd.C_drewN ?_ _) | (with_reducible refine Kd.C_drew ?_))); (case side2 => exact (Kd.R_reads' HO_13.out).2.1); (case side3 => repeat (first | exact (Kd.V_reads' HO_8.out).2.2 | (with_reducible refine Kd.C_alloc ?_ _) | (with_reducible refine Kd.C_drewN ?_ _) | (with_reducible refine Kd.C_drew ?_))); (case side4 => exact (Kd.V_reads' HO_8.out).2.1); rintro e w' ⟨rfl, ⟨nd, rfl⟩⟩; (try first | exact ⟨rfl, _, World.drewN_drewN _ _ _⟩ | exact ⟨rfl, _, Eq.trans (World.drewN_drewN _ _ _) (congrArg (World.drewN _) (Nat.add_assoc _ _ _))⟩); obtain ⟨Ao81, co81, eo81⟩ := Kd.R_slice HO_14.out; subst eo81) | (go_at_call 7; (with_reducible refine (pollardref19_Same.calls k2 _ _ x14_2 _ _ t219 t238 _ ?side1 ?side2 ?side3 ?side4 A77.out).mono ?_); (case side1 => repeat (first | exact (Kd.R_reads' HO_14.out).2.2 | (with_reducible refine Kd.C_alloc ?_ _) | (with_reducible refine Kd.C_drewN ?_ _) | (with_reducible refine Kd.C_drew ?_))); (case side2 => exact (Kd.R_reads' HO_14.out).2.1); (case side3 => repeat (first | exact (Kd.V_reads' HO_9.out).2.2 | (with_reducible refine Kd.C_alloc ?_ _) | (with_reducible refine Kd.C_drewN ?_ _) | (with_reducible refine Kd.C_drew ?_))); (case side4 => exact (Kd.V_reads' HO_9.out).2.1); rintro e w' ⟨rfl, ⟨nd, rfl⟩⟩; (try first | exact ⟨rfl, _, World.drewN_drewN _ _ _⟩ | exact ⟨rfl, _, Eq.trans (World.drewN_drewN _ _ _) (congrArg (World.drewN _) (Nat.add_assoc _ _ _))⟩))); try go_wp2_with (first | (go_at_call 7; (with_reducible refine (pollardref19_Same.calls k2 _ _ x12_2 _ _ t213 true _ ?side1 ?side2 ?side3 ?side4 A73.out).mono ?_); (case side1 => repeat (first | exact (Kd.R_reads' HO_12.out).2.2 | (with_reducible refine Kd.C_alloc ?_ _) | (with_reducible refine Kd.C_drewN ?_ _) | (with_reducible refine Kd.C_drew ?_))); (case side2 => exact (Kd.R_reads' HO_12.out).2.1); (case side3 => repeat (first | exact (Kd.V_reads' HO_7.out).2.2 | (with_reducible refine Kd.C_alloc ?_ _) | (with_reducible refine Kd.C_drewN ?_ _) | (with_reducible refine Kd.C_drew ?_))); (case side4 => exact (Kd.V_reads' HO_7.out).2.1); rintro e w' ⟨rfl, ⟨nd, rfl⟩⟩; (try first | exact ⟨rfl, _, World.drewN_drewN _ _ _⟩ | exact ⟨rfl, _, Eq.trans (World.drewN_drewN _ _ _) (congrArg (World.drewN _) (Nat.add_assoc _ _ _))⟩); obtain ⟨Ao80, co80, eo80⟩ := Kd.R_slice HO_13.out; subst eo80) | (go_at_call 7; (with_reducible refine (pollardref19_Same.calls k2 _ _ x13_2 _ _ t216 true _ ?side1 ?side2 ?side3 ?side4 A75.out).mono ?_); (case side1 => repeat (first | exact (Kd.R_reads' HO_13.out).2.2 | (with_reducible refine Kd.C_alloc ?_ _) | (with_reducible refine Kd.C_drewN ?_ _) | (with_reducible refine Kd.C_drew ?_))); (case side2 => exact (Kd.R_reads' HO_13.out).2.1); (case side3 => repeat (first | exact (Kd.V_reads' HO_8.out).2.2 | (with_reducible refine Kd.C_alloc ?_ _) | (with_reducible refine Kd.C_drewN ?_ _) | (with_reducible refine Kd.C_drew ?_))); (case side4 => exact (Kd.V_reads' HO_8.out).2.1); rintro e w' ⟨rfl, ⟨nd, rfl⟩⟩; (try first | exact ⟨rfl, _, World.drewN_drewN _ _ _⟩ | exact ⟨rfl, _, Eq.trans (World.drewN_drewN _ _ _) (congrArg (World.drewN _) (Nat.add_assoc _ _ _))⟩); obtain ⟨Ao81, co81, eo81⟩ := Kd.R_slice HO_14.out; subst eo81) | (go_at_call 7; (with_reducible refine (pollardref19_Same.calls k2 _ _ x14_2 _ _ t219 t238 _ ?side1 ?side2 ?side3 ?side4 A77.out).mono ?_); (case side1 => repeat (first | exact (Kd.R_reads' HO_14.out).2.2 | (with_reducible refine Kd.C_alloc ?_ _) | (with_reducible refine Kd.C_drewN ?_ _) | (with_reducible refine Kd.C_drew ?_))); (case side2 => exact (Kd.R_reads' HO_14.out).2.1); (case side3 => repeat (first | exact (Kd.V_reads' HO_9.out).2.2 | (with_reducible refine Kd.C_alloc ?_ _) | (with_reducible refine Kd.C_drewN ?_ _) | (with_reducible refine Kd.C_drew ?_))); (case side4 => exact (Kd.V_reads' HO_9.out).2.1); rintro e w' ⟨rfl, ⟨nd, rfl⟩⟩; (try first | exact ⟨rfl, _, World.drewN_drewN _ _ _⟩ | exact ⟨rfl, _, Eq.trans (World.drewN_drewN _ _ _) (congrArg (World.drewN _) (Nat.add_assoc _ _ _))⟩))))
         go_ret
         exact ⟨by first | rfl | (simp [errW_none, errW_some] <;> rfl) | (simp [*, errW_none, errW_some] <;> rfl), by repeat (first | (with_reducible first | exact HB.out | apply below_alloc | apply pw_below_drewN | apply below_drew1) | exact HB.out)⟩
        · replace c76 := Bool.eq_false_iff.mpr c76
          subst c76
          have H1 : (none) = some r := by rw [if_neg (show ¬ (false = true) by decide)] at H; exact H
          clear H
          have H := H1
          clear H1
          exact absurd H (by simp)
       · replace c74 := Bool.eq_false_iff.mpr c74
         subst c74
         have H1 : (none) = some r := by rw [if_neg (show ¬ (false = true) by decide)] at H; exact H
         clear H
         have H := H1
         clear H1
         exact absurd H (by simp)

end Go.Proofs.YthdmioocgofaeaaDoor.M
