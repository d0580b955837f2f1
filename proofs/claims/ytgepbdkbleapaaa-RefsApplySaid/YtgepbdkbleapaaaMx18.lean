/- The program's functions as plain functions, and that each call comes to what these tell; written by a program of this session, some contracts by hand. Conditions: none. -/
import Derived.Test.YtgepbdkbleapaaaMx0
import Derived.Test.YtgepbdkbleapaaaMx2
import Derived.Test.YtgepbdkbleapaaaMx13
import Derived.Test.YtgepbdkbleapaaaMx15
import Derived.Test.YtgepbdkbleapaaaMx16
import Derived.Test.YtgepbdkbleapaaaMx17
namespace Go.Proofs.Ytgepbdkbleapaaa.M
open Go.RowKit Go.Proofs.YtgepbdkbleapaaaW.PrintWords Go.Proofs.YtgepbdkbleapaaaW.PrintLast Go.Proofs.YtgepbdkbleapaaaW.PrintMore
attribute [local go_sem] max2_int min2_int max_two min_two max_three min_three max_four min_four   -- for this text's walks alone
set_option linter.unusedVariables false
set_option linter.unusedSimpArgs false

/-! ### pollardlaw13_RefsApply: function 3 -/
mutual
def pollardlaw13_RefsApply.j1 : Nat → List (S37) → List (S34) → List (S35) → ByteArray → List (S50) → ByteArray → List (S61) → Option (Bool)
 | 0, _, _, _, _, _, _, _ => none
 | k + 1, x2, x9, x10, x229000, x229001, x234000, x234001 => pollardlaw13_RefsApply.l1 k x2 x9 x10 0 x229000 x229001 x234000 x234001 (([] : List (S37)))
def pollardlaw13_RefsApply.j3 : Nat → List (S34) → List (S35) → ByteArray → List (S50) → ByteArray → List (S61) → List (S37) → Option (Bool)
 | 0, _, _, _, _, _, _, _ => none
 | k + 1, x9, x10, x229000, x229001, x234000, x234001, x258000 => (refs_ApplyW.f k x229000 x229001 x9 x258000).bind fun bt265 => ((pollardref13_Apply.f k x234000 x234001 x10 x258000).bind fun bt271 => ((pollardlaw13_awake.f k).bind fun t277 => (if t277 = true then (if bt265.2.2 = bt271.2.2 then ((pollardlaw13_Same.f k bt265.1 bt265.2.1 bt271.1 bt271.2.1).bind fun t278 => (if t278 = true then ((pollardlaw13_Same.f k x229000 x229001 x234000 x234001).bind fun t279 => (some t279)) else (none))) else (none)) else (none))))
def pollardlaw13_RefsApply.l1 : Nat → List (S37) → List (S34) → List (S35) → Int → ByteArray → List (S50) → ByteArray → List (S61) → List (S37) → Option (Bool)
 | 0, _, _, _, _, _, _, _, _, _ => none
 | k + 1, x2, x9, x10, x13, x229000, x229001, x234000, x234001, x258000 => if x13 < (x2.length : Int) then (if x13 < 30 then (if 0 ≤ x13 then ((some (([(⟨(rd_T37 x2 x13).f0, (rd_T37 x2 x13).f1⟩ : S37)] : List (S37)) : List (S37))).bind fun y259 => (if x258000.length + y259.length < 4398046511104 then (pollardlaw13_RefsApply.l1 k x2 x9 x10 (wrap64 (x13 + 1)) x229000 x229001 x234000 x234001 (x258000 ++ y259)) else (none))) else (none)) else (pollardlaw13_RefsApply.j3 k x9 x10 x229000 x229001 x234000 x234001 x258000)) else (pollardlaw13_RefsApply.j3 k x9 x10 x229000 x229001 x234000 x234001 x258000)
def pollardlaw13_RefsApply.l0 : Nat → List (S34) → List (S37) → List (S34) → List (S35) → Int → ByteArray → List (S50) → ByteArray → List (S61) → Option (Bool)
 | 0, _, _, _, _, _, _, _, _, _ => none
 | k + 1, x1, x2, x9, x10, x11, x229000, x229001, x234000, x234001 => if x11 < (x1.length : Int) then (if x11 < 30 then (if 0 ≤ x11 then ((some (([(⟨(rd_T34 x1 x11).f0, (rd_T34 x1 x11).f1, (rd_T34 x1 x11).f2, (rd_T34 x1 x11).f3⟩ : S34)] : List (S34)) : List (S34))).bind fun y241 => (if x9.length + y241.length < 2513169434916 then ((some (([(⟨(rd_T34 x1 x11).f0, (rd_T34 x1 x11).f1, (rd_T34 x1 x11).f2, (rd_T34 x1 x11).f3⟩ : S35)] : List (S35)) : List (S35))).bind fun y248 => (if x10.length + y248.length < 2513169434916 then (pollardlaw13_RefsApply.l0 k x1 x2 (x9 ++ y241) (x10 ++ y248) (wrap64 (x11 + 1)) x229000 x229001 x234000 x234001) else (none))) else (none))) else (none)) else (pollardlaw13_RefsApply.j1 k x2 x9 x10 x229000 x229001 x234000 x234001)) else (pollardlaw13_RefsApply.j1 k x2 x9 x10 x229000 x229001 x234000 x234001)
end
def pollardlaw13_RefsApply.f (k : Nat) (a0_0 : ByteArray) (l0_1 : List (S50)) (l1 : List (S34)) (l2 : List (S37)) : Option (Bool) := (pollardlaw13_cut.f a0_0 l0_1).bind fun bt224 => ((pollardlaw13_Ref.f k bt224.1 bt224.2).bind fun bt229 => (pollardlaw13_RefsApply.l0 k l1 l2 (([] : List (S34))) (([] : List (S35))) 0 bt224.1 bt224.2 bt229.1 bt229.2))
theorem pollardlaw13_RefsApply.mono_l : ∀ k, (∀ y0 y1 y2 y3 y4 y5 y6, LeO (pollardlaw13_RefsApply.j1 k y0 y1 y2 y3 y4 y5 y6) (pollardlaw13_RefsApply.j1 (k + 1) y0 y1 y2 y3 y4 y5 y6)) ∧ (∀ y0 y1 y2 y3 y4 y5 y6, LeO (pollardlaw13_RefsApply.j3 k y0 y1 y2 y3 y4 y5 y6) (pollardlaw13_RefsApply.j3 (k + 1) y0 y1 y2 y3 y4 y5 y6)) ∧ (∀ y0 y1 y2 y3 y4 y5 y6 y7 y8, LeO (pollardlaw13_RefsApply.l1 k y0 y1 y2 y3 y4 y5 y6 y7 y8) (pollardlaw13_RefsApply.l1 (k + 1) y0 y1 y2 y3 y4 y5 y6 y7 y8)) ∧ (∀ y0 y1 y2 y3 y4 y5 y6 y7 y8, LeO (pollardlaw13_RefsApply.l0 k y0 y1 y2 y3 y4 y5 y6 y7 y8) (pollardlaw13_RefsApply.l0 (k + 1) y0 y1 y2 y3 y4 y5 y6 y7 y8))
 | 0 => ⟨fun _ _ _ _ _ _ _ r h => by simp [pollardlaw13_RefsApply.j1] at h, fun _ _ _ _ _ _ _ r h => by simp [pollardlaw13_RefsApply.j3] at h, fun _ _ _ _ _ _ _ _ _ r h => by simp [pollardlaw13_RefsApply.l1] at h, fun _ _ _ _ _ _ _ _ _ r h => by simp [pollardlaw13_RefsApply.l0] at h⟩
 | k + 1 => by
  obtain ⟨ih0, ih1, ih2, ih3⟩ := pollardlaw13_RefsApply.mono_l k
  refine ⟨?_, ?_, ?_, ?_⟩
  all_goals (intros; first | unfold pollardlaw13_RefsApply.j1 | unfold pollardlaw13_RefsApply.j3 | unfold pollardlaw13_RefsApply.l1 | unfold pollardlaw13_RefsApply.l0)
  all_goals repeat' with_reducible first | exact ih0 _ _ _ _ _ _ _ | exact ih1 _ _ _ _ _ _ _ | exact ih2 _ _ _ _ _ _ _ _ _ | exact ih3 _ _ _ _ _ _ _ _ _ | exact pollardlaw13_Ref.mono _ _ _ | exact pollardlaw13_Same.mono _ _ _ _ _ | exact pollardlaw13_awake.mono _ | exact pollardref13_Apply.mono _ _ _ _ _ | exact refs_ApplyW.mono _ _ _ _ _ | exact LeO.refl _ | exact LeO.none _ | refine LeO.ite ?_ ?_ | refine LeO.bind ?_ (fun _ => ?_)
theorem pollardlaw13_RefsApply.mono : ∀ a0 a1 a2 a3 k, LeO (pollardlaw13_RefsApply.f k a0 a1 a2 a3) (pollardlaw13_RefsApply.f (k + 1) a0 a1 a2 a3) := by
 intro a0 a1 a2 a3 k
 obtain ⟨ih0, ih1, ih2, ih3⟩ := pollardlaw13_RefsApply.mono_l k
 unfold pollardlaw13_RefsApply.f
 repeat' with_reducible first | exact ih0 _ _ _ _ _ _ _ | exact ih1 _ _ _ _ _ _ _ | exact ih2 _ _ _ _ _ _ _ _ _ | exact ih3 _ _ _ _ _ _ _ _ _ | exact pollardlaw13_Ref.mono _ _ _ | exact pollardlaw13_Same.mono _ _ _ _ _ | exact pollardlaw13_awake.mono _ | exact pollardref13_Apply.mono _ _ _ _ _ | exact refs_ApplyW.mono _ _ _ _ _ | exact LeO.refl _ | exact LeO.none _ | refine LeO.ite ?_ ?_ | refine LeO.bind ?_ (fun _ => ?_)
def pollardlaw13_RefsApply.T7 : Bool × List (List Nat × List Nat) := (true, [([], []), ([], []), ([], []), ([1, 2], [1, 2]), ([3], [3]), ([4], [4]), ([0, 5], [0, 5]), ([], []), ([], []), ([], []), ([8, 9], [8, 9]), ([10], [10]), ([11], [11]), ([7, 12, 6], [7, 12]), ([6, 13, 0, 1, 2, 3, 4, 5, 6], [0, 6]), ([13, 14, 0, 1, 2, 3, 4, 5, 6, 7, 8, 9, 10, 11, 12, 13, 14], [7, 13])])
def pollardlaw13_RefsApply.B7 : List Nat := [0, 0, 0, 6, 14, 30, 63, 0, 0, 0, 768, 1792, 3840, 8191, 16383, 32767]
theorem pollardlaw13_RefsApply.tab7 : rtab .any (opsOf Try.f3 7) = pollardlaw13_RefsApply.T7 := by kernel_rfl
theorem pollardlaw13_RefsApply.bits7 : waitsOk pollardlaw13_RefsApply.T7.2 pollardlaw13_RefsApply.B7 = true := by kernel_rfl
def pollardlaw13_RefsApply.T12 : Bool × List (List Nat × List Nat) := (true, [([], []), ([], []), ([], []), ([1, 2], [1, 2]), ([3], [3]), ([4], [4]), ([0, 5], [0, 5]), ([6, 6, 0, 1, 2, 3, 4, 5, 6], [6])])
def pollardlaw13_RefsApply.B12 : List Nat := [0, 0, 0, 6, 14, 30, 63, 127]
theorem pollardlaw13_RefsApply.tab12 : rtab .any (opsOf Try.f3 12) = pollardlaw13_RefsApply.T12 := by kernel_rfl
theorem pollardlaw13_RefsApply.bits12 : waitsOk pollardlaw13_RefsApply.T12.2 pollardlaw13_RefsApply.B12 = true := by kernel_rfl
set_option maxHeartbeats 8000000 in
set_option maxRecDepth 100000 in
theorem pollardlaw13_RefsApply.calls (k : Nat) (a0_0 : ByteArray) (A0_1 : Option Addr) (c0_1 : Nat) (l0_1 : List (S50)) (A1 : Option Addr) (c1 : Nat) (l1 : List (S34)) (A2 : Option Addr) (c2 : Nat) (l2 : List (S37)) (r : Bool) (w : World) (hr0_1 : Kd.C k50 w A0_1 l0_1.length l0_1) (hc0_1 : l0_1.length ≤ c0_1) (hr1 : Kd.C k34 w A1 l1.length l1) (hc1 : l1.length ≤ c1) (hr2 : Kd.C k37 w A2 l2.length l2) (hc2 : l2.length ≤ c2) (h : pollardlaw13_RefsApply.f k a0_0 l0_1 l1 l2 = some r) :
 Calls Try.prog 3 #[.agg #[.string a0_0, .slice A0_1 l0_1.length c0_1], .slice A1 l1.length c1, .slice A2 l2.length c2] w fun e w' => e = .returned (.bool r) ∧ Below w.heap.size w w' := by
 have hu24 := Try.underlying24
 have hu30 := Try.underlying30
 have hu34 := Try.underlying34
 have hu37 := Try.underlying37
 have HR0_1 := Aside0.mk hr0_1
 have HC0_1 := Aside0.mk hc0_1
 clear hr0_1 hc0_1
 have HR1 := Aside0.mk hr1
 have HC1 := Aside0.mk hc1
 clear hr1 hc1
 have HR2 := Aside0.mk hr2
 have HC2 := Aside0.mk hc2
 clear hr2 hc2
 have HB := Aside0.mk (Below.refl w.heap.size w)
 have H : ((pollardlaw13_cut.f a0_0 l0_1).bind fun bt224 => ((pollardlaw13_Ref.f k bt224.1 bt224.2).bind fun bt229 => (pollardlaw13_RefsApply.l0 k l1 l2 (([] : List (S34))) (([] : List (S35))) 0 bt224.1 bt224.2 bt229.1 bt229.2))) = some r := h
 clear h
 replace H := Option.bind_eq_some_iff.mp H
 obtain ⟨⟨t224, t225⟩, A40, H⟩ := H
 try dsimp only at H
 have A4 := Aside0.mk A40
 clear A40
 replace H := Option.bind_eq_some_iff.mp H
 obtain ⟨⟨t229, t230⟩, A50, H⟩ := H
 try dsimp only at H
 have A5 := Aside0.mk A50
 clear A50
 obtain ⟨y234, hy234⟩ : ∃ y_ : List (S34), y_ = (([] : List (S34))) := ⟨_, rfl⟩
 replace H : (pollardlaw13_RefsApply.l0 k l1 l2 y234 (([] : List (S35))) 0 t224 t225 t229 t230) = some r := by first | (rw [hy234]; with_reducible exact H) | (have H2_ := (Option.bind_some _ _).symm.trans H; rw [hy234]; with_reducible exact H2_) | (have H2_ := (Option.bind_some _ _).symm.trans H; with_reducible exact H2_) | with_reducible exact H | (rw [hy234]; exact H) | exact H
 have Ny234 := Aside0.mk hy234
 clear hy234
 obtain ⟨y237, hy237⟩ : ∃ y_ : List (S35), y_ = (([] : List (S35))) := ⟨_, rfl⟩
 replace H : (pollardlaw13_RefsApply.l0 k l1 l2 y234 y237 0 t224 t225 t229 t230) = some r := by first | (rw [hy237]; with_reducible exact H) | (have H2_ := (Option.bind_some _ _).symm.trans H; rw [hy237]; with_reducible exact H2_) | (have H2_ := (Option.bind_some _ _).symm.trans H; with_reducible exact H2_) | with_reducible exact H | (rw [hy237]; exact H) | exact H
 have Ny237 := Aside0.mk hy237
 clear hy237
 have HC6 := Aside0.mk H
 clear H
 go_enter Try.func3, Try.ntmps3
 go_upto_block 0 with (first | ((with_reducible refine gate_dst (N := 3) rfl ?_); refine box_event ?hg (N := 3) ?hd (cs := #[.string a0_0, .slice A0_1 l0_1.length c0_1]) (t := 24) ?hr ?_; (case hd => rfl); (case hg => rfl); (case hr => first | (go_simp; done) | (go_simp; rfl)); intro gb223 hg w7 hbox hb; have n0_ := Aside0.mk (below_step bz_ hb); have n1_ := Aside0.mk (hbox); have n2_ := Aside0.mk ((by rw [hg]; exact (below_size bz_) : w.heap.size ≤ gb223)); have n3_ := Aside0.mk ((by rw [hg]; exact (below_size bz_) : w.heap.size ≤ gb223)); clear HB; have HB := n0_; have BK223 := n1_; have GW223 := n2_; have GE223 := n3_; clear n0_ n1_ n2_ n3_; clear hb hbox hg; have hcz8_0 : w7.cell? ⟨gb223, 0, none⟩ = some (.string a0_0) := (blk_cell BK223.out 0).trans rfl; have hcz8_1 : w7.cell? ⟨gb223, 1, none⟩ = some (.slice A0_1 l0_1.length c0_1) := (blk_cell BK223.out 1).trans rfl; have hfz8_0 := blk_frozen BK223.out 0; have hfz8_1 := blk_frozen BK223.out 1) | ((with_reducible refine gate_callee (f := 6) rfl ?_); refine goesM_ (some 19) Try.func6 #[.agg #[.string a0_0, .slice A0_1 l0_1.length c0_1]] ?_; (with_reducible refine (pollardlaw13_cut.calls a0_0 (fun k_ => k_ < w.heap.size) _ _ l0_1 t224 t225 _ ?side1 A4.out).mono ?_); (case side1 => exact Kd.V_mk HC0_1.out (Kd.F_below (Kd.C_F k50_heap HR0_1.out) (bs1_ GE223.out))); rintro e w9 ⟨v226, rfl, ho0, hb⟩; refine ⟨_, rfl, ?_⟩; have n0_ := Aside0.mk (Kd.V_lower (Kd.V_mono (ok' := fun k_ => k_ ≠ gb223) ho0 (fun k_ hk_ => Or.elim hk_ (fun hs_ => fun e_ => Nat.not_le.2 hs_ (by rw [e_]; exact GW223.out)) (fun hn_ => (Kd.freshB (g := gb223) (o := .cells #[.string a0_0, .slice A0_1 l0_1.length c0_1] 24 (0, 0)) (kz_ BK223.out) k_ hn_)))) (below_size (bs1_ GE223.out))); have n1_ := Aside0.mk (blk_below (g := gb223) (o := .cells #[.string a0_0, .slice A0_1 l0_1.length c0_1] 24 (0, 0)) (kz_ BK223.out) hb); have n2_ := Aside0.mk (below_step (bs1_ GE223.out) hb); clear BK223; clear HB; have HO227 := n0_; have BK223 := n1_; have HB := n2_; clear n0_ n1_ n2_; (try clear hb); (try clear hb2); (try clear hk); (try clear hi); (try clear ho0)) | ((with_reducible refine gate_dst (N := 7) rfl ?_); refine box_event ?hg (N := 7) ?hd (cs := #[.string (⟨#[]⟩ : ByteArray), .slice none 0 0]) (t := 24) ?hr ?_; (case hd => rfl); (case hg => rfl); (case hr => first | (go_simp; done) | (go_simp; rfl)); intro gb228 hg w10 hbox hb; have n0_ := Aside0.mk (Kd.V_below (Kd.V_elderB (by (with_reducible repeat (first | apply Kd.V_alloc | apply Kd.V_drewN | apply Kd.V_drew)); exact HO227.out) gb228 (Nat.le_of_eq hg.symm)) hb); have n1_ := Aside0.mk (blk_below (g := gb223) (o := .cells #[.string a0_0, .slice A0_1 l0_1.length c0_1] 24 (0, 0)) (kz_ BK223.out) hb); have n2_ := Aside0.mk (below_step (bs1_ GE223.out) hb); have n3_ := Aside0.mk (hbox); have n4_ := Aside0.mk ((by rw [hg]; exact (below_size (bs1_ GE223.out)) : w.heap.size ≤ gb228)); have n5_ := Aside0.mk ((by rw [hg]; exact (below_size (bs1_ GE223.out)) : w.heap.size ≤ gb228)); have n6_ := Aside0.mk ((by rw [hg]; exact Nat.ne_of_lt (blk_lt (g := gb223) (o := .cells #[.string a0_0, .slice A0_1 l0_1.length c0_1] 24 (0, 0)) (kz_ BK223.out)) : gb223 ≠ gb228)); have n7_ := Aside0.mk ((by rw [hg]; exact Nat.ne_of_gt (blk_lt (g := gb223) (o := .cells #[.string a0_0, .slice A0_1 l0_1.length c0_1] 24 (0, 0)) (kz_ BK223.out)) : gb228 ≠ gb223)); clear HO227; clear BK223; clear HB; have HO227 := n0_; have BK223 := n1_; have HB := n2_; have BK228 := n3_; have GW228 := n4_; have GE228 := n5_; have NB223_228 := n6_; have NB228_223 := n7_; clear n0_ n1_ n2_ n3_ n4_ n5_ n6_ n7_; clear hb hbox hg; have hnb11 := NB228_223.out; have hnc11 := NB223_228.out; have hcz12_0 : w10.cell? ⟨gb228, 0, none⟩ = some (.string (⟨#[]⟩ : ByteArray)) := (blk_cell BK228.out 0).trans rfl; have hcz12_1 : w10.cell? ⟨gb228, 1, none⟩ = some (.slice none 0 0) := (blk_cell BK228.out 1).trans rfl; have hfz12_0 := blk_frozen BK228.out 0; have hfz12_1 := blk_frozen BK228.out 1; obtain ⟨Ao13, co13, eo13⟩ := Kd.V_slice HO227.out; subst eo13) | ((with_reducible refine gate_callee (f := 7) rfl ?_); refine goesM_ (some 21) Try.func7 #[.agg #[.string t224, .slice Ao13 t225.length co13]] ?_; (with_reducible refine (pollardlaw13_Ref.calls k t224 _ _ t225 t229 t230 _ ?side1 ?side2 A5.out).mono ?_); (case side1 => refine (Kd.V_reads' (e := 50) (base := w.heap.size) (ok := fun k_ => (k_ ≠ gb223 ∧ k_ ≠ gb228)) (n := t225.length) (c := co13) ?_).2.2; exact (by (with_reducible repeat (first | apply Kd.V_alloc | apply Kd.V_drewN | apply Kd.V_drew)); exact (Kd.V_mono (Kd.V_far (p := ⟨gb228, 1, none⟩) (Kd.V_far (p := ⟨gb228, 0, none⟩) (Kd.V_mono HO227.out (fun k_ hk => (⟨hk, hk.2⟩ : _ ∧ k_ ≠ gb228))) (fun _ hk => hk.2) (.string t224)) (fun _ hk => hk.2) (.slice Ao13 t225.length co13)) (fun _ h_ => h_.1)))); (case side2 => exact (Kd.V_reads' HO227.out).2.1); rintro e w14 ⟨v231, rfl, ho0, hb⟩; refine ⟨_, rfl, ?_⟩; have n0_ := Aside0.mk (Kd.V_elder' (by (with_reducible repeat (first | apply Kd.V_alloc | apply Kd.V_drewN | apply Kd.V_drew)); exact (Kd.V_mono (Kd.V_far (p := ⟨gb228, 1, none⟩) (Kd.V_far (p := ⟨gb228, 0, none⟩) (Kd.V_mono HO227.out (fun k_ hk => (⟨hk, hk.2⟩ : _ ∧ k_ ≠ gb228))) (fun _ hk => hk.2) (.string t224)) (fun _ hk => hk.2) (.slice Ao13 t225.length co13)) (fun _ h_ => h_.1))) (Kd.R_base ho0) hb); have n1_ := Aside0.mk (Kd.R_lower ho0 (below_size (bs2_ GE223.out GE228.out))); have n2_ := Aside0.mk (blk_below (g := gb223) (o := .cells #[.string a0_0, .slice A0_1 l0_1.length c0_1] 24 (0, 0)) (by (with_reducible repeat (first | refine blk_drewN ?_ _ | refine blk_drew ?_ | refine blk_alloc ?_ _)); refine blk_far ?_ NB223_228.out _; (with_reducible repeat (first | refine blk_drewN ?_ _ | refine blk_drew ?_ | refine blk_alloc ?_ _)); refine blk_far ?_ NB223_228.out _; (with_reducible repeat (first | refine blk_drewN ?_ _ | refine blk_drew ?_ | refine blk_alloc ?_ _)); exact BK223.out) hb); have n3_ := Aside0.mk (blk_below (g := gb228) (o := .cells #[.string t224, .slice Ao13 t225.length co13] 24 (0, 0)) (by (with_reducible repeat (first | refine blk_drewN ?_ _ | refine blk_drew ?_ | refine blk_alloc ?_ _)); refine blk_put (cs := #[.string t224, .slice none 0 0]) ?_ 1 _ rfl; (with_reducible repeat (first | refine blk_drewN ?_ _ | refine blk_drew ?_ | refine blk_alloc ?_ _)); refine blk_put (cs := #[.string (⟨#[]⟩ : ByteArray), .slice none 0 0]) ?_ 0 _ rfl; (with_reducible repeat (first | refine blk_drewN ?_ _ | refine blk_drew ?_ | refine blk_alloc ?_ _)); exact BK228.out) hb); have n4_ := Aside0.mk (below_step (bs2_ GE223.out GE228.out) hb); clear HO227; clear BK223; clear BK228; clear HB; have HO227 := n0_; have HO232 := n1_; have BK223 := n2_; have BK228 := n3_; have HB := n4_; clear n0_ n1_ n2_ n3_ n4_; (try clear hb); (try clear hb2); (try clear hk); (try clear hi); (try clear ho0)) | ((with_reducible refine gate_dst (N := 8) rfl ?_); refine box_event ?hg (N := 8) ?hd (cs := #[.string (⟨#[]⟩ : ByteArray), .slice none 0 0]) (t := 30) ?hr ?_; (case hd => rfl); (case hg => rfl); (case hr => first | (go_simp; done) | (go_simp; rfl)); intro gb233 hg w15 hbox hb; have n0_ := Aside0.mk (Kd.V_below (Kd.V_elderB (by (with_reducible repeat (first | apply Kd.V_alloc | apply Kd.V_drewN | apply Kd.V_drew)); exact HO227.out) gb233 (Nat.le_of_eq hg.symm)) hb); have n1_ := Aside0.mk (Kd.R_below (rz_ HO232.out) hb); have n2_ := Aside0.mk (blk_below (g := gb223) (o := .cells #[.string a0_0, .slice A0_1 l0_1.length c0_1] 24 (0, 0)) (kz_ BK223.out) hb); have n3_ := Aside0.mk (blk_below (g := gb228) (o := .cells #[.string t224, .slice Ao13 t225.length co13] 24 (0, 0)) (kz_ BK228.out) hb); have n4_ := Aside0.mk (below_step (bs2_ GE223.out GE228.out) hb); have n5_ := Aside0.mk (hbox); have n6_ := Aside0.mk ((by rw [hg]; exact (below_size (bs2_ GE223.out GE228.out)) : w.heap.size ≤ gb233)); have n7_ := Aside0.mk ((by rw [hg]; exact (below_size (bs2_ GE223.out GE228.out)) : w.heap.size ≤ gb233)); have n8_ := Aside0.mk ((by rw [hg]; exact Nat.ne_of_lt (blk_lt (g := gb223) (o := .cells #[.string a0_0, .slice A0_1 l0_1.length c0_1] 24 (0, 0)) (kz_ BK223.out)) : gb223 ≠ gb233)); have n9_ := Aside0.mk ((by rw [hg]; exact Nat.ne_of_gt (blk_lt (g := gb223) (o := .cells #[.string a0_0, .slice A0_1 l0_1.length c0_1] 24 (0, 0)) (kz_ BK223.out)) : gb233 ≠ gb223)); have n10_ := Aside0.mk ((by rw [hg]; exact Nat.ne_of_lt (blk_lt (g := gb228) (o := .cells #[.string t224, .slice Ao13 t225.length co13] 24 (0, 0)) (kz_ BK228.out)) : gb228 ≠ gb233)); have n11_ := Aside0.mk ((by rw [hg]; exact Nat.ne_of_gt (blk_lt (g := gb228) (o := .cells #[.string t224, .slice Ao13 t225.length co13] 24 (0, 0)) (kz_ BK228.out)) : gb233 ≠ gb228)); clear HO227; clear HO232; clear BK223; clear BK228; clear HB; have HO227 := n0_; have HO232 := n1_; have BK223 := n2_; have BK228 := n3_; have HB := n4_; have BK233 := n5_; have GW233 := n6_; have GE233 := n7_; have NB223_233 := n8_; have NB233_223 := n9_; have NB228_233 := n10_; have NB233_228 := n11_; clear n0_ n1_ n2_ n3_ n4_ n5_ n6_ n7_ n8_ n9_ n10_ n11_; clear hb hbox hg; have hnb16 := NB233_223.out; have hnc16 := NB223_233.out; have hnb17 := NB233_228.out; have hnc17 := NB228_233.out; have hcz18_0 : w15.cell? ⟨gb233, 0, none⟩ = some (.string (⟨#[]⟩ : ByteArray)) := (blk_cell BK233.out 0).trans rfl; have hcz18_1 : w15.cell? ⟨gb233, 1, none⟩ = some (.slice none 0 0) := (blk_cell BK233.out 1).trans rfl; have hfz18_0 := blk_frozen BK233.out 0; have hfz18_1 := blk_frozen BK233.out 1; obtain ⟨Ao19, co19, eo19⟩ := Kd.R_slice HO232.out; subst eo19) | ((with_reducible refine gate_dst (N := 22) rfl ?_); refine Kd.R_lit k34 _ 34 ?hg (N := 22) ?hd (xs := ([] : List (S34))) (inner := []) (ok := fun _ => True) (okp := fun _ => True) ?hr ?hp (fun _ hk => hk) trivial (Below.refl _ _) (Nat.le_refl _) (by simp) ?_; (case hd => rfl); (case hg => rfl); (case hr => first | (go_simp; done) | (go_simp; rfl)); (case hp => exact (Reps.none _ _)); intro v235 w20 ho21 hb hg_ hnew_; clear hg_ hnew_; (first | rw [← Ny234.out] at ho21 | (simp only [Int.reduceToNat] at ho21; rw [← Ny234.out] at ho21)); have n0_ := Aside0.mk (Kd.V_elder' (by (with_reducible repeat (first | apply Kd.V_alloc | apply Kd.V_drewN | apply Kd.V_drew)); exact (Kd.V_mono (Kd.V_far (p := ⟨gb233, 1, none⟩) (Kd.V_far (p := ⟨gb233, 0, none⟩) (Kd.V_mono HO227.out (fun k_ hk => (⟨hk, hk.2⟩ : _ ∧ k_ ≠ gb233))) (fun _ hk => hk.2) (.string t229)) (fun _ hk => hk.2) (.slice Ao19 t230.length co19)) (fun _ h_ => h_.1))) (Kd.R_base ho21) hb); have n1_ := Aside0.mk (Kd.R_below (rz_ ((Kd.R_mono (Kd.R_far (p := ⟨gb233, 1, none⟩) (Kd.R_far (p := ⟨gb233, 0, none⟩) (Kd.R_types HO232.out BK233.out (by decide)) (fun _ hk => hk.2) (.string t229)) (fun _ hk => hk.2) (.slice Ao19 t230.length co19)) (fun _ h_ => h_.1)))) hb); have n2_ := Aside0.mk (Kd.R_lower ho21 (below_size (bs3_ GE223.out GE228.out GE233.out))); have n3_ := Aside0.mk (blk_below (g := gb223) (o := .cells #[.string a0_0, .slice A0_1 l0_1.length c0_1] 24 (0, 0)) (by (with_reducible repeat (first | refine blk_drewN ?_ _ | refine blk_drew ?_ | refine blk_alloc ?_ _)); refine blk_far ?_ NB223_233.out _; (with_reducible repeat (first | refine blk_drewN ?_ _ | refine blk_drew ?_ | refine blk_alloc ?_ _)); refine blk_far ?_ NB223_233.out _; (with_reducible repeat (first | refine blk_drewN ?_ _ | refine blk_drew ?_ | refine blk_alloc ?_ _)); exact BK223.out) hb); have n4_ := Aside0.mk (blk_below (g := gb228) (o := .cells #[.string t224, .slice Ao13 t225.length co13] 24 (0, 0)) (by (with_reducible repeat (first | refine blk_drewN ?_ _ | refine blk_drew ?_ | refine blk_alloc ?_ _)); refine blk_far ?_ NB228_233.out _; (with_reducible repeat (first | refine blk_drewN ?_ _ | refine blk_drew ?_ | refine blk_alloc ?_ _)); refine blk_far ?_ NB228_233.out _; (with_reducible repeat (first | refine blk_drewN ?_ _ | refine blk_drew ?_ | refine blk_alloc ?_ _)); exact BK228.out) hb); have n5_ := Aside0.mk (blk_below (g := gb233) (o := .cells #[.string t229, .slice Ao19 t230.length co19] 30 (0, 0)) (by (with_reducible repeat (first | refine blk_drewN ?_ _ | refine blk_drew ?_ | refine blk_alloc ?_ _)); refine blk_put (cs := #[.string t229, .slice none 0 0]) ?_ 1 _ rfl; (with_reducible repeat (first | refine blk_drewN ?_ _ | refine blk_drew ?_ | refine blk_alloc ?_ _)); refine blk_put (cs := #[.string (⟨#[]⟩ : ByteArray), .slice none 0 0]) ?_ 0 _ rfl; (with_reducible repeat (first | refine blk_drewN ?_ _ | refine blk_drew ?_ | refine blk_alloc ?_ _)); exact BK233.out) hb); have n6_ := Aside0.mk (below_step (bs3_ GE223.out GE228.out GE233.out) hb); clear HO227; clear HO232; clear BK223; clear BK228; clear BK233; clear HB; have HO227 := n0_; have HO232 := n1_; have HO236 := n2_; have BK223 := n3_; have BK228 := n4_; have BK233 := n5_; have HB := n6_; clear n0_ n1_ n2_ n3_ n4_ n5_ n6_; clear hb ho21) | ((with_reducible refine gate_dst (N := 23) rfl ?_); refine Kd.R_lit k35 _ 35 ?hg (N := 23) ?hd (xs := ([] : List (S35))) (inner := []) (ok := fun _ => True) (okp := fun _ => True) ?hr ?hp (fun _ hk => hk) trivial (Below.refl _ _) (Nat.le_refl _) (by simp) ?_; (case hd => rfl); (case hg => rfl); (case hr => first | (go_simp; done) | (go_simp; rfl)); (case hp => exact (Reps.none _ _)); intro v238 w22 ho23 hb hg_ hnew_; clear hg_ hnew_; (first | rw [← Ny237.out] at ho23 | (simp only [Int.reduceToNat] at ho23; rw [← Ny237.out] at ho23)); have n0_ := Aside0.mk (Kd.V_elder' (by (with_reducible repeat (first | apply Kd.V_alloc | apply Kd.V_drewN | apply Kd.V_drew)); exact HO227.out) (Kd.R_base ho23) hb); have n1_ := Aside0.mk (Kd.R_below (rz_ HO232.out) hb); have n2_ := Aside0.mk (Kd.R_below (rz_ HO236.out) hb); have n3_ := Aside0.mk (Kd.R_lower ho23 (below_size (bs3_ GE223.out GE228.out GE233.out))); have n4_ := Aside0.mk (blk_below (g := gb223) (o := .cells #[.string a0_0, .slice A0_1 l0_1.length c0_1] 24 (0, 0)) (kz_ BK223.out) hb); have n5_ := Aside0.mk (blk_below (g := gb228) (o := .cells #[.string t224, .slice Ao13 t225.length co13] 24 (0, 0)) (kz_ BK228.out) hb); have n6_ := Aside0.mk (blk_below (g := gb233) (o := .cells #[.string t229, .slice Ao19 t230.length co19] 30 (0, 0)) (kz_ BK233.out) hb); have n7_ := Aside0.mk (below_step (bs3_ GE223.out GE228.out GE233.out) hb); clear HO227; clear HO232; clear HO236; clear BK223; clear BK228; clear BK233; clear HB; have HO227 := n0_; have HO232 := n1_; have HO236 := n2_; have HO239 := n3_; have BK223 := n4_; have BK228 := n5_; have BK233 := n6_; have HB := n7_; clear n0_ n1_ n2_ n3_ n4_ n5_ n6_ n7_; clear hb ho23))
 (try simp only [Act.put, List.setIfInBounds_toArray, List.set_cons_zero, List.set_cons_succ])
 go_cut [9, 10] (fun v9 v10 wc => ∃ (kq : Nat) (x9_5 : List (S34)) (x10_5 : List (S35)), Aside0 (pollardlaw13_RefsApply.j1 kq l2 x9_5 x10_5 t224 t225 t229 t230 = some r) ∧ Aside0 (kq ≤ k) ∧ Aside0 (Kd.R k34 34 wc w.heap.size (fun _ => True) v9 x9_5) ∧ Aside0 (Kd.R k35 35 wc w.heap.size (fun _ => True) v10 x10_5) ∧ Aside0 (Kd.V k50 50 wc w.heap.size (fun k_ => some k_ ≠ (v9 : Value).ownBlock ∧ some k_ ≠ (v10 : Value).ownBlock ∧ some k_ ≠ ((.slice Ao19 t230.length co19) : Value).ownBlock ∧ k_ ≠ gb223 ∧ k_ ≠ gb228 ∧ k_ ≠ gb233) (.slice Ao13 t225.length co13) t225) ∧ Aside0 (Kd.R k61 61 wc w.heap.size (fun _ => True) (.slice Ao19 t230.length co19) t230) ∧ Aside0 (wc.heap[gb223]? = some (.cells #[.string a0_0, (.slice A0_1 l0_1.length c0_1)] 24 (0, 0))) ∧ Aside0 (wc.heap[gb228]? = some (.cells #[.string t224, (.slice Ao13 t225.length co13)] 24 (0, 0))) ∧ Aside0 (wc.heap[gb233]? = some (.cells #[.string t229, (.slice Ao19 t230.length co19)] 30 (0, 0))) ∧ Aside0 (Below w.heap.size w wc))
 case first =>
  have H := HC6.out
  clear HC6
  have H' := Aside0.mk H
  clear H
  go_wp2
  go_loopg [9, 10, 11] k (fun kq v9 v10 v11 w' => ∃ (x9_1 : List (S34)) (x10_1 : List (S35)) (x11_1 : Int), v11 = .int .i64 x11_1 ∧ Aside0 (pollardlaw13_RefsApply.l0 kq l1 l2 x9_1 x10_1 x11_1 t224 t225 t229 t230 = some r) ∧ Aside0 (kq ≤ k) ∧ Aside0 (Kd.R k34 34 w' w.heap.size (fun _ => True) v9 x9_1) ∧ Aside0 (Kd.R k35 35 w' w.heap.size (fun _ => True) v10 x10_1) ∧ Aside0 (Kd.V k50 50 w' w.heap.size (fun k_ => some k_ ≠ (v9 : Value).ownBlock ∧ some k_ ≠ (v10 : Value).ownBlock ∧ some k_ ≠ ((.slice Ao19 t230.length co19) : Value).ownBlock ∧ k_ ≠ gb223 ∧ k_ ≠ gb228 ∧ k_ ≠ gb233) (.slice Ao13 t225.length co13) t225) ∧ Aside0 (Kd.R k61 61 w' w.heap.size (fun _ => True) (.slice Ao19 t230.length co19) t230) ∧ Aside0 (w'.heap[gb223]? = some (.cells #[.string a0_0, (.slice A0_1 l0_1.length c0_1)] 24 (0, 0))) ∧ Aside0 (w'.heap[gb228]? = some (.cells #[.string t224, (.slice Ao13 t225.length co13)] 24 (0, 0))) ∧ Aside0 (w'.heap[gb233]? = some (.cells #[.string t229, (.slice Ao19 t230.length co19)] 30 (0, 0))) ∧ Aside0 (Below w.heap.size w w'))
  case atStart => exact ⟨(y234), (y237), (0), ez_, H', ⟨Nat.le_refl _⟩, ⟨rz_ HO236.out⟩, ⟨rz_ HO239.out⟩, ⟨by (with_reducible repeat (first | apply Kd.V_alloc | apply Kd.V_drewN | apply Kd.V_drew)); exact Kd.V_mono HO227.out (fun _ hk => ⟨hk.1.2, ⟨hk.2, ⟨hk.1.1.1.2, ⟨hk.1.1.1.1.1, ⟨hk.1.1.1.1.2, hk.1.1.2⟩⟩⟩⟩⟩)⟩, ⟨rz_ HO232.out⟩, ⟨kz_ BK223.out⟩, ⟨kz_ BK228.out⟩, ⟨kz_ BK233.out⟩, ⟨bs3_ GE223.out GE228.out GE233.out⟩⟩
  case round =>
   clear H'
   try clear c1
   try clear c2
   try clear p2
   try clear c3
   try clear c6
   try clear c7
   try clear c11
   try clear c16
   try clear c17
   try clear hcz12_0
   try clear hcz12_1
   try clear hcz18_0
   try clear hcz18_1
   try clear hcz8_0
   try clear hcz8_1
   try clear hfz12_0
   try clear hfz12_1
   try clear hfz18_0
   try clear hfz18_1
   try clear hfz8_0
   try clear hfz8_1
   obtain ⟨x9_1, x10_1, x11_1, rfl, HA, HK1, HO_9, HO_10, HO_229001, HO_234001, BK223, BK228, BK233, HB⟩ := hrel
   cases gk with
   | zero => exact absurd HA.out (by simp [pollardlaw13_RefsApply.l0])
   | succ k1 =>
    have H := HA.out
    clear HA
    simp only [pollardlaw13_RefsApply.l0] at H
    by_cases c24 : x11_1 < (l1.length : Int)
    ·
     rw [if_pos c24] at H
     have c24b0 : decide (x11_1 < (l1.length : Int)) = true := decide_eq_true c24
     clear c24
     (first | rw [c24b0] | (simp only [i64_w, i32_w]; rw [c24b0]) | skip)
     by_cases c25 : x11_1 < 30
     ·
      rw [if_pos c25] at H
      have c25b0 : decide (x11_1 < 30) = true := decide_eq_true c25
      clear c25
      by_cases c26 : 0 ≤ x11_1
      ·
       rw [if_pos c26] at H
       have c26b0 : decide (0 ≤ x11_1) = true := decide_eq_true c26
       clear c26
       obtain ⟨y241, hy241⟩ : ∃ y_ : List (S34), y_ = (([(⟨(rd_T34 l1 x11_1).f0, (rd_T34 l1 x11_1).f1, (rd_T34 l1 x11_1).f2, (rd_T34 l1 x11_1).f3⟩ : S34)] : List (S34))) := ⟨_, rfl⟩
       replace H : (if x9_1.length + y241.length < 2513169434916 then ((some (([(⟨(rd_T34 l1 x11_1).f0, (rd_T34 l1 x11_1).f1, (rd_T34 l1 x11_1).f2, (rd_T34 l1 x11_1).f3⟩ : S35)] : List (S35)) : List (S35))).bind fun y248 => (if x10_1.length + y248.length < 2513169434916 then (pollardlaw13_RefsApply.l0 k1 l1 l2 (x9_1 ++ y241) (x10_1 ++ y248) (wrap64 (x11_1 + 1)) t224 t225 t229 t230) else (none))) else (none)) = some r := by first | (rw [hy241]; with_reducible exact H) | (have H2_ := (Option.bind_some _ _).symm.trans H; rw [hy241]; with_reducible exact H2_) | (have H2_ := (Option.bind_some _ _).symm.trans H; with_reducible exact H2_) | with_reducible exact H | (rw [hy241]; exact H) | exact H
       have Ny241 := Aside0.mk hy241
       clear hy241
       by_cases c27 : x9_1.length + y241.length < 2513169434916
       ·
        rw [if_pos c27] at H
        have LMc27 := Aside0.mk c27
        clear c27
        obtain ⟨y244, hy244⟩ : ∃ y_ : List (S34), y_ = (x9_1 ++ y241) := ⟨_, rfl⟩
        replace H : ((some (([(⟨(rd_T34 l1 x11_1).f0, (rd_T34 l1 x11_1).f1, (rd_T34 l1 x11_1).f2, (rd_T34 l1 x11_1).f3⟩ : S35)] : List (S35)) : List (S35))).bind fun y248 => (if x10_1.length + y248.length < 2513169434916 then (pollardlaw13_RefsApply.l0 k1 l1 l2 y244 (x10_1 ++ y248) (wrap64 (x11_1 + 1)) t224 t225 t229 t230) else (none))) = some r := by first | (rw [hy244]; with_reducible exact H) | (have H2_ := (Option.bind_some _ _).symm.trans H; rw [hy244]; with_reducible exact H2_) | (have H2_ := (Option.bind_some _ _).symm.trans H; with_reducible exact H2_) | with_reducible exact H | (rw [hy244]; exact H) | exact H
        have Ny244 := Aside0.mk hy244
        clear hy244
        obtain ⟨y248, hy248⟩ : ∃ y_ : List (S35), y_ = (([(⟨(rd_T34 l1 x11_1).f0, (rd_T34 l1 x11_1).f1, (rd_T34 l1 x11_1).f2, (rd_T34 l1 x11_1).f3⟩ : S35)] : List (S35))) := ⟨_, rfl⟩
        replace H : (if x10_1.length + y248.length < 2513169434916 then (pollardlaw13_RefsApply.l0 k1 l1 l2 y244 (x10_1 ++ y248) (wrap64 (x11_1 + 1)) t224 t225 t229 t230) else (none)) = some r := by first | (rw [hy248]; with_reducible exact H) | (have H2_ := (Option.bind_some _ _).symm.trans H; rw [hy248]; with_reducible exact H2_) | (have H2_ := (Option.bind_some _ _).symm.trans H; with_reducible exact H2_) | with_reducible exact H | (rw [hy248]; exact H) | exact H
        have Ny248 := Aside0.mk hy248
        clear hy248
        by_cases c28 : x10_1.length + y248.length < 2513169434916
        ·
         rw [if_pos c28] at H
         have LMc28 := Aside0.mk c28
         clear c28
         obtain ⟨y251, hy251⟩ : ∃ y_ : List (S35), y_ = (x10_1 ++ y248) := ⟨_, rfl⟩
         replace H : (pollardlaw13_RefsApply.l0 k1 l1 l2 y244 y251 (wrap64 (x11_1 + 1)) t224 t225 t229 t230) = some r := by first | (rw [hy251]; with_reducible exact H) | (have H2_ := (Option.bind_some _ _).symm.trans H; rw [hy251]; with_reducible exact H2_) | (have H2_ := (Option.bind_some _ _).symm.trans H; with_reducible exact H2_) | with_reducible exact H | (rw [hy251]; exact H) | exact H
         have Ny251 := Aside0.mk hy251
         clear hy251
         have H' := Aside0.mk H
         clear H
         obtain ⟨Ao29, co29, eo29⟩ := Kd.R_slice HO_9.out
         subst eo29
         obtain ⟨Ao30, co30, eo30⟩ := Kd.R_slice HO_10.out
         subst eo30
         try go_wp2
         have n0_ := Aside0.mk (Kd.R_drew HO_9.out)
         have n1_ := Aside0.mk (Kd.R_drew HO_10.out)
         have n2_ := Aside0.mk (Kd.V_drew HO_229001.out)
         have n3_ := Aside0.mk (Kd.R_drew HO_234001.out)
         have n4_ := Aside0.mk (blk_drew BK223.out)
         have n5_ := Aside0.mk (blk_drew BK228.out)
         have n6_ := Aside0.mk (blk_drew BK233.out)
         have n7_ := Aside0.mk (below_drew1 HB.out)
         clear HO_9
         clear HO_10
         clear HO_229001
         clear HO_234001
         clear BK223
         clear BK228
         clear BK233
         clear HB
         have HO_9 := n0_
         have HO_10 := n1_
         have HO_229001 := n2_
         have HO_234001 := n3_
         have BK223 := n4_
         have BK228 := n5_
         have BK233 := n6_
         have HB := n7_
         clear n0_ n1_ n2_ n3_ n4_ n5_ n6_ n7_
         have p240 : 0 ≤ (x11_1 : Int) := of_decide_eq_true az_
         have q240 : x11_1 < (l1.length : Int) := of_decide_eq_true az_
         obtain ⟨ad240, e240, hx240_0, hx240_1, hx240_2, hx240_3⟩ := at_T34 HR1.out x11_1 p240 q240
         have hw240_3 := hx240_3
         have hw240_2 := hx240_2
         have hw240_1 := hx240_1
         have hw240_0 := hx240_0
         cases e240
         replace hx240_0 := (HB.out.cell (World.block_lt_of_cell? w _ hx240_0)).trans hx240_0
         replace hx240_1 := (HB.out.cell (World.block_lt_of_cell? w _ hx240_1)).trans hx240_1
         replace hx240_2 := (HB.out.cell (World.block_lt_of_cell? w _ hx240_2)).trans hx240_2
         replace hx240_3 := (HB.out.cell (World.block_lt_of_cell? w _ hx240_3)).trans hx240_3
         replace p240 := eq_true p240
         replace q240 := eq_true q240
         have p247 : 0 ≤ (x11_1 : Int) := of_decide_eq_true az_
         have q247 : x11_1 < (l1.length : Int) := of_decide_eq_true az_
         obtain ⟨ad247, e247, hx247_0, hx247_1, hx247_2, hx247_3⟩ := at_T34 HR1.out x11_1 p247 q247
         have hw247_3 := hx247_3
         have hw247_2 := hx247_2
         have hw247_1 := hx247_1
         have hw247_0 := hx247_0
         obtain rfl : ad240 = ad247 := (by injection e247)
         replace hx247_0 := (HB.out.cell (World.block_lt_of_cell? w _ hx247_0)).trans hx247_0
         replace hx247_1 := (HB.out.cell (World.block_lt_of_cell? w _ hx247_1)).trans hx247_1
         replace hx247_2 := (HB.out.cell (World.block_lt_of_cell? w _ hx247_2)).trans hx247_2
         replace hx247_3 := (HB.out.cell (World.block_lt_of_cell? w _ hx247_3)).trans hx247_3
         replace p247 := eq_true p247
         replace q247 := eq_true q247
         refine start_ (n := 16) (S := fun w' => w'.cell? (ad240.add ((x11_1).toNat * 4)) = some (.string ((rd_T34 l1 x11_1).f0)) ∧ w'.cell? ⟨(ad240.add ((x11_1).toNat * 4)).block, (ad240.add ((x11_1).toNat * 4)).off + 1, none⟩ = some (.string ((rd_T34 l1 x11_1).f1)) ∧ w'.cell? ⟨(ad240.add ((x11_1).toNat * 4)).block, (ad240.add ((x11_1).toNat * 4)).off + 2, none⟩ = some (.string ((rd_T34 l1 x11_1).f2)) ∧ w'.cell? ⟨(ad240.add ((x11_1).toNat * 4)).block, (ad240.add ((x11_1).toNat * 4)).off + 3, none⟩ = some (.bool ((rd_T34 l1 x11_1).f3)) ∧ w'.cell? (ad240.add ((x11_1).toNat * 4)) = some (.string ((rd_T34 l1 x11_1).f0)) ∧ w'.cell? ⟨(ad240.add ((x11_1).toNat * 4)).block, (ad240.add ((x11_1).toNat * 4)).off + 1, none⟩ = some (.string ((rd_T34 l1 x11_1).f1)) ∧ w'.cell? ⟨(ad240.add ((x11_1).toNat * 4)).block, (ad240.add ((x11_1).toNat * 4)).off + 2, none⟩ = some (.string ((rd_T34 l1 x11_1).f2)) ∧ w'.cell? ⟨(ad240.add ((x11_1).toNat * 4)).block, (ad240.add ((x11_1).toNat * 4)).off + 3, none⟩ = some (.bool ((rd_T34 l1 x11_1).f3))) (ds := []) #[false, false, false, false, false, false, false, false, false, false, false, false, false, false, false, false] (by kernel_rfl) rfl rfl ⟨((HB.out.cell (World.block_lt_of_cell? w _ hw240_0)).trans hw240_0), ((HB.out.cell (World.block_lt_of_cell? w _ hw240_1)).trans hw240_1), ((HB.out.cell (World.block_lt_of_cell? w _ hw240_2)).trans hw240_2), ((HB.out.cell (World.block_lt_of_cell? w _ hw240_3)).trans hw240_3), ((HB.out.cell (World.block_lt_of_cell? w _ hw247_0)).trans hw247_0), ((HB.out.cell (World.block_lt_of_cell? w _ hw247_1)).trans hw247_1), ((HB.out.cell (World.block_lt_of_cell? w _ hw247_2)).trans hw247_2), ((HB.out.cell (World.block_lt_of_cell? w _ hw247_3)).trans hw247_3)⟩ (fun hHeld => ?_); refine with_tabW pollardlaw13_RefsApply.tab7 pollardlaw13_RefsApply.bits7 (fun HT_ HW_ => ?_)
         generalize wr.drew = w31 at HO_9 HO_10 HO_229001 HO_234001 BK223 BK228 BK233 HB hx240_0 hx240_1 hx240_2 hx240_3 hx247_0 hx247_1 hx247_2 hx247_3 hHeld ⊢
         refine pure_ (i := 0) (N := some 34) (v := ?_) (a' := ?_) #[true, false, false, false, false, false, false, false, false, false, false, false, false, false, false, false] rfl rfl (any_of HT_.out (by kernel_rfl)) (fun _ _ _ h => h) (Or.inl ⟨by rfl, ?_⟩) ?_ ?_
         rotate_left
         · intro w'
           go_simp
           with_reducible rfl
         rotate_left
         · simp only [Act.put, List.setIfInBounds_toArray, List.set_cons_zero, List.set_cons_succ, i64_w, i32_w]
           rfl
         refine pure_ (i := 1) (N := some 35) (v := ?_) (a' := ?_) #[true, true, false, false, false, false, false, false, false, false, false, false, false, false, false, false] rfl rfl (any_of HT_.out (by kernel_rfl)) (fun _ _ _ h => h) (Or.inl ⟨by rfl, ?_⟩) ?_ ?_
         rotate_left
         · intro w'
           go_simp
           with_reducible rfl
         rotate_left
         · simp only [Act.put, List.setIfInBounds_toArray, List.set_cons_zero, List.set_cons_succ, i64_w, i32_w]
           rfl
         refine pure_ (i := 2) (N := some 36) (v := ?_) (a' := ?_) #[true, true, true, false, false, false, false, false, false, false, false, false, false, false, false, false] rfl rfl (any_of HT_.out (by kernel_rfl)) (fun _ _ _ h => h) (Or.inl ⟨by rfl, ?_⟩) ?_ ?_
         rotate_left
         · intro w'
           go_simp
           with_reducible rfl
         rotate_left
         · simp only [Act.put, List.setIfInBounds_toArray, List.set_cons_zero, List.set_cons_succ, i64_w, i32_w]
           rfl
         refine pure_ (i := 3) (N := some 37) (v := ?_) (a' := ?_) #[true, true, true, true, false, false, false, false, false, false, false, false, false, false, false, false] rfl rfl (any_of HT_.out (by kernel_rfl)) (fun _ _ _ h => h) (Or.inl ⟨by rfl, ?_⟩) ?_ ?_
         rotate_left
         · intro w'
           go_simp
           with_reducible rfl
         rotate_left
         · simp only [Act.put, List.setIfInBounds_toArray, List.set_cons_zero, List.set_cons_succ, i64_w, i32_w]
           rfl
         refine pure_ (i := 7) (N := some 41) (v := ?_) (a' := ?_) #[true, true, true, true, false, false, false, true, false, false, false, false, false, false, false, false] rfl rfl (any_of HT_.out (by kernel_rfl)) (fun _ _ _ h => h) (Or.inl ⟨by rfl, ?_⟩) ?_ ?_
         rotate_left
         · intro w'
           go_simp
           with_reducible rfl
         rotate_left
         · simp only [Act.put, List.setIfInBounds_toArray, List.set_cons_zero, List.set_cons_succ, i64_w, i32_w]
           rfl
         refine pure_ (i := 8) (N := some 42) (v := ?_) (a' := ?_) #[true, true, true, true, false, false, false, true, true, false, false, false, false, false, false, false] rfl rfl (any_of HT_.out (by kernel_rfl)) (fun _ _ _ h => h) (Or.inl ⟨by rfl, ?_⟩) ?_ ?_
         rotate_left
         · intro w'
           go_simp
           with_reducible rfl
         rotate_left
         · simp only [Act.put, List.setIfInBounds_toArray, List.set_cons_zero, List.set_cons_succ, i64_w, i32_w]
           rfl
         refine pure_ (i := 9) (N := some 43) (v := ?_) (a' := ?_) #[true, true, true, true, false, false, false, true, true, true, false, false, false, false, false, false] rfl rfl (any_of HT_.out (by kernel_rfl)) (fun _ _ _ h => h) (Or.inl ⟨by rfl, ?_⟩) ?_ ?_
         rotate_left
         · intro w'
           go_simp
           with_reducible rfl
         rotate_left
         · simp only [Act.put, List.setIfInBounds_toArray, List.set_cons_zero, List.set_cons_succ, i64_w, i32_w]
           rfl
         refine pure_ (i := 10) (N := some 44) (v := ?_) (a' := ?_) #[true, true, true, true, false, false, false, true, true, true, true, false, false, false, false, false] rfl rfl (any_of HT_.out (by kernel_rfl)) (fun _ _ _ h => h) (Or.inl ⟨by rfl, ?_⟩) ?_ ?_
         rotate_left
         · intro w'
           go_simp
           with_reducible rfl
         rotate_left
         · simp only [Act.put, List.setIfInBounds_toArray, List.set_cons_zero, List.set_cons_succ, i64_w, i32_w]
           rfl
         refine take_ (i := 4) (N := some 38) (v := ?_) (a' := ?_) #[true, true, true, true, true, false, false, true, true, true, true, false, false, false, false, false] rfl rfl (take_ofW HT_.out HW_.out (by kernel_rfl)) (fun _ _ _ h => h) (Or.inl ⟨by rfl, ?_⟩) hHeld ?_ ?_
         rotate_left
         · rintro w' ⟨s0, s1, s2, s3, s4, s5, s6, s7⟩
           go_simp
           with_reducible rfl
         rotate_left
         · simp only [Act.put, List.setIfInBounds_toArray, List.set_cons_zero, List.set_cons_succ, i64_w, i32_w]
           rfl
         refine take_ (i := 11) (N := some 45) (v := ?_) (a' := ?_) #[true, true, true, true, true, false, false, true, true, true, true, true, false, false, false, false] rfl rfl (take_ofW HT_.out HW_.out (by kernel_rfl)) (fun _ _ _ h => h) (Or.inl ⟨by rfl, ?_⟩) hHeld ?_ ?_
         rotate_left
         · rintro w' ⟨s0, s1, s2, s3, s4, s5, s6, s7⟩
           go_simp
           with_reducible rfl
         rotate_left
         · simp only [Act.put, List.setIfInBounds_toArray, List.set_cons_zero, List.set_cons_succ, i64_w, i32_w]
           rfl
         refine join_ (σ := Value × Value × Value) 3 #[true, true, true, true, true, true, true, true, true, true, true, true, true, false, false, false] (fun s_ => [(39, s_.1), (40, s_.2.1), (46, s_.2.2)]) (fun s_ w' => (w'.cell? (ad240.add ((x11_1).toNat * 4)) = some (.string ((rd_T34 l1 x11_1).f0)) ∧ w'.cell? ⟨(ad240.add ((x11_1).toNat * 4)).block, (ad240.add ((x11_1).toNat * 4)).off + 1, none⟩ = some (.string ((rd_T34 l1 x11_1).f1)) ∧ w'.cell? ⟨(ad240.add ((x11_1).toNat * 4)).block, (ad240.add ((x11_1).toNat * 4)).off + 2, none⟩ = some (.string ((rd_T34 l1 x11_1).f2)) ∧ w'.cell? ⟨(ad240.add ((x11_1).toNat * 4)).block, (ad240.add ((x11_1).toNat * 4)).off + 3, none⟩ = some (.bool ((rd_T34 l1 x11_1).f3)) ∧ w'.cell? (ad240.add ((x11_1).toNat * 4)) = some (.string ((rd_T34 l1 x11_1).f0)) ∧ w'.cell? ⟨(ad240.add ((x11_1).toNat * 4)).block, (ad240.add ((x11_1).toNat * 4)).off + 1, none⟩ = some (.string ((rd_T34 l1 x11_1).f1)) ∧ w'.cell? ⟨(ad240.add ((x11_1).toNat * 4)).block, (ad240.add ((x11_1).toNat * 4)).off + 2, none⟩ = some (.string ((rd_T34 l1 x11_1).f2)) ∧ w'.cell? ⟨(ad240.add ((x11_1).toNat * 4)).block, (ad240.add ((x11_1).toNat * 4)).off + 3, none⟩ = some (.bool ((rd_T34 l1 x11_1).f3))) ∧ (Kd.R k34 34 w' w.heap.size (fun k_ => some k_ ≠ (s_.2.1 : Value).ownBlock) s_.1 y241) ∧ (Kd.R k34 34 w' w.heap.size (fun k_ => some k_ ≠ (s_.1 : Value).ownBlock) s_.2.1 y244) ∧ (Kd.R k35 35 w' w.heap.size (fun k_ => some k_ ≠ (.slice Ao30 x10_1.length co30 : Value).ownBlock) s_.2.2 y248) ∧ (Kd.R k35 35 w' w.heap.size (fun k_ => some k_ ≠ (s_.2.2 : Value).ownBlock) (.slice Ao30 x10_1.length co30) x10_1) ∧ (Kd.V k50 50 w' w.heap.size (fun k_ => some k_ ≠ (s_.1 : Value).ownBlock ∧ some k_ ≠ (s_.2.1 : Value).ownBlock ∧ some k_ ≠ (s_.2.2 : Value).ownBlock ∧ some k_ ≠ (.slice Ao30 x10_1.length co30 : Value).ownBlock ∧ some k_ ≠ (.slice Ao19 t230.length co19 : Value).ownBlock ∧ k_ ≠ gb223 ∧ k_ ≠ gb228 ∧ k_ ≠ gb233) (.slice Ao13 t225.length co13) t225) ∧ (Kd.R k61 61 w' w.heap.size (fun _ => True) (.slice Ao19 t230.length co19) t230) ∧ (w'.heap[gb223]? = some (.cells #[.string a0_0, .slice A0_1 l0_1.length c0_1] 24 (0, 0))) ∧ (w'.heap[gb228]? = some (.cells #[.string t224, .slice Ao13 t225.length co13] 24 (0, 0))) ∧ (w'.heap[gb233]? = some (.cells #[.string t229, .slice Ao19 t230.length co19] 30 (0, 0))) ∧ (Below w.heap.size w w')) ?_ ?_
         rotate_left
         ·
          intro hCont
          refine two_ (i := 5) (j := 12) (Ni := some 39) (Nj := some 46) #[true, true, true, true, true, true, false, true, true, true, true, true, false, false, false, false] #[true, true, true, true, true, false, false, true, true, true, true, true, true, false, false, false] rfl rfl rfl rfl (two_of HT_.out (by kernel_rfl)) (by decide) (by decide) (fun K hK => ?_) (fun K hK => ?_)
          ·
           skip
           refine Kd.R_lit_step k34 _ 34 ?hg (N := 39) ?hd (xs := ([(⟨(rd_T34 l1 x11_1).f0, (rd_T34 l1 x11_1).f1, (rd_T34 l1 x11_1).f2, (rd_T34 l1 x11_1).f3⟩ : S34)] : List (S34))) (inner := [.string ((rd_T34 l1 x11_1).f0), .string ((rd_T34 l1 x11_1).f1), .string ((rd_T34 l1 x11_1).f2), .bool ((rd_T34 l1 x11_1).f3)]) (ok := fun _ => True) (okp := fun _ => True) ?hr ?hp (fun _ hk => hk) trivial (Below.refl _ _) (Nat.le_refl _) (by simp) ?_; (case hd => rfl); (case hg => rfl); (case hr => first | (go_simp; done) | (go_simp; rfl)); (case hp => exact (Reps.c4 (show Kd.M k34 _ _ _ (⟨(rd_T34 l1 x11_1).f0, (rd_T34 l1 x11_1).f1, (rd_T34 l1 x11_1).f2, (rd_T34 l1 x11_1).f3⟩ : S34) [.string ((rd_T34 l1 x11_1).f0), .string ((rd_T34 l1 x11_1).f1), .string ((rd_T34 l1 x11_1).f2), .bool ((rd_T34 l1 x11_1).f3)] from (k34_mkM _ _ _ (⟨(rd_T34 l1 x11_1).f0, (rd_T34 l1 x11_1).f1, (rd_T34 l1 x11_1).f2, (rd_T34 l1 x11_1).f3⟩ : S34) )) (Reps.none _ _)))
           intro v242 w32 ho33 hb hg_ hnew_
           clear hg_ hnew_
           (first | rw [← Ny241.out] at ho33 | (simp only [Int.reduceToNat] at ho33; rw [← Ny241.out] at ho33))
           have n0_ := Aside0.mk (Kd.R_elder' (rz_ HO_9.out) (Kd.R_base ho33) hb)
           have n1_ := Aside0.mk (Kd.R_below (rz_ HO_10.out) hb)
           have n2_ := Aside0.mk (Kd.V_elder' (by (with_reducible repeat (first | apply Kd.V_alloc | apply Kd.V_drewN | apply Kd.V_drew)); exact HO_229001.out) (Kd.R_base ho33) hb)
           have n3_ := Aside0.mk (Kd.R_below (rz_ HO_234001.out) hb)
           have n4_ := Aside0.mk (Kd.R_lower (Kd.R_new' ho33 (Kd.R_lt (rz_ HO_9.out))) (below_size (bs3_ GE223.out GE228.out GE233.out)))
           have n5_ := Aside0.mk (blk_below (g := gb223) (o := .cells #[.string a0_0, .slice A0_1 l0_1.length c0_1] 24 (0, 0)) (kz_ BK223.out) hb)
           have n6_ := Aside0.mk (blk_below (g := gb228) (o := .cells #[.string t224, .slice Ao13 t225.length co13] 24 (0, 0)) (kz_ BK228.out) hb)
           have n7_ := Aside0.mk (blk_below (g := gb233) (o := .cells #[.string t229, .slice Ao19 t230.length co19] 30 (0, 0)) (kz_ BK233.out) hb)
           have n8_ := Aside0.mk (below_step (bs3_ GE223.out GE228.out GE233.out) hb)
           clear HO_9
           clear HO_10
           clear HO_229001
           clear HO_234001
           clear BK223
           clear BK228
           clear BK233
           clear HB
           have HO_9 := n0_
           have HO_10 := n1_
           have HO_229001 := n2_
           have HO_234001 := n3_
           have HO243 := n4_
           have BK223 := n5_
           have BK228 := n6_
           have BK233 := n7_
           have HB := n8_
           clear n0_ n1_ n2_ n3_ n4_ n5_ n6_ n7_ n8_
           clear hb ho33
           obtain ⟨Ao35, co35, eo35⟩ := Kd.R_slice HO243.out
           (first | subst eo35 | (injection eo35 with f1_ f2_ f3_; have f4_ := f1_.symm; have f5_ := f3_.symm; clear f1_ f2_ f3_; subst f4_; subst f5_))
           refine hK.out _ _ ⟨((HB.out.cell (World.block_lt_of_cell? w _ hw240_0)).trans hw240_0), ((HB.out.cell (World.block_lt_of_cell? w _ hw240_1)).trans hw240_1), ((HB.out.cell (World.block_lt_of_cell? w _ hw240_2)).trans hw240_2), ((HB.out.cell (World.block_lt_of_cell? w _ hw240_3)).trans hw240_3), ((HB.out.cell (World.block_lt_of_cell? w _ hw247_0)).trans hw247_0), ((HB.out.cell (World.block_lt_of_cell? w _ hw247_1)).trans hw247_1), ((HB.out.cell (World.block_lt_of_cell? w _ hw247_2)).trans hw247_2), ((HB.out.cell (World.block_lt_of_cell? w _ hw247_3)).trans hw247_3)⟩ (fun hHeld => ?_)
           clear hK K
           refine norm_ (a' := ?_) ?_ ?_
           rotate_left
           · show Act.put _ (some 39) _ = _
             simp only [Act.put, List.setIfInBounds_toArray, List.set_cons_zero, List.set_cons_succ, i64_w, i32_w]
             rfl
           refine two_ (i := 6) (j := 12) (Ni := some 40) (Nj := some 46) #[true, true, true, true, true, true, true, true, true, true, true, true, false, false, false, false] #[true, true, true, true, true, true, false, true, true, true, true, true, true, false, false, false] rfl rfl rfl rfl (two_of HT_.out (by kernel_rfl)) (by decide) (by decide) (fun K hK => ?_) (fun K hK => ?_)
           ·
            skip
            refine Kd.R_append_rows_step k34 (w0 := w) w.heap.size (by rfl) (.tmp 34) (.tmp 39) 25 34 (.agg #[(.string ⟨#[]⟩), (.string ⟨#[]⟩), (.string ⟨#[]⟩), (.bool false)]) 56 rfl Try.underlying25 info34 rfl (by decide) (by omega) (.slice Ao29 x9_1.length co29) x9_1 y241 _ _ _ (fun k_ => some k_ ≠ (.slice Ao35 y241.length co35 : Value).ownBlock) (fun _ => False) rfl rfl ?aO ?aR (fun _ _ h => h) (fun _ h => h.elim) ?aF ?aB ?aS ?aL ?_
            (case aR => repeat (first | exact (Kd.R_reads' HO243.out).2.2 | (with_reducible refine Kd.C_alloc ?_ _) | (with_reducible refine Kd.C_drewN ?_ _) | (with_reducible refine Kd.C_drew ?_)))
            (case aB => exact (bs3_ GE223.out GE228.out GE233.out))
            (case aF => exact (fun k_ hk => Kd.fresh' (Kd.R_lt (rz_ HO243.out)) k_ hk))
            (case aO => exact (by (with_reducible repeat (first | apply Kd.R_alloc | apply Kd.R_drewN | apply Kd.R_drew)); exact Kd.R_mono HO_9.out (fun _ hk => hk.2)))
            (case aS => exact (below_size (bs3_ GE223.out GE228.out GE233.out)))
            (case aL => have := LMc27.out; omega)
            intro v245 w34 ho hb hg hat
            rw [← Ny244.out] at ho
            have n0_ := Aside0.mk (Kd.R_over' (rz_ HO_10.out) (Kd.R_typed (rz_ HO_9.out)) (by decide) hg)
            have n1_ := Aside0.mk (Kd.V_afterv (ok := (fun k_ => some k_ ≠ (.slice Ao30 x10_1.length co30 : Value).ownBlock ∧ some k_ ≠ (.slice Ao19 t230.length co19 : Value).ownBlock ∧ some k_ ≠ (.slice Ao35 y241.length co35 : Value).ownBlock ∧ k_ ≠ gb223 ∧ k_ ≠ gb228 ∧ k_ ≠ gb233)) (by (with_reducible repeat (first | apply Kd.V_alloc | apply Kd.V_drewN | apply Kd.V_drew)); exact Kd.V_mono HO_229001.out (fun _ hk => ⟨⟨hk.1.2.1, ⟨hk.1.2.2.1, ⟨hk.2, ⟨hk.1.2.2.2.1, ⟨hk.1.2.2.2.2.1, hk.1.2.2.2.2.2⟩⟩⟩⟩⟩, hk.1.1⟩)) hg hat)
            have n2_ := Aside0.mk (Kd.R_over' (rz_ HO_234001.out) (Kd.R_typed (rz_ HO_9.out)) (by decide) hg)
            have n3_ := Aside0.mk (blk_grown (g := gb223) (o := .cells #[.string a0_0, .slice A0_1 l0_1.length c0_1] 24 (0, 0)) (kz_ BK223.out) hg (Kd.R_ne HO_9.out BK223.out (by decide)))
            have n4_ := Aside0.mk (blk_grown (g := gb228) (o := .cells #[.string t224, .slice Ao13 t225.length co13] 24 (0, 0)) (kz_ BK228.out) hg (Kd.R_ne HO_9.out BK228.out (by decide)))
            have n5_ := Aside0.mk (blk_grown (g := gb233) (o := .cells #[.string t229, .slice Ao19 t230.length co19] 30 (0, 0)) (kz_ BK233.out) hg (Kd.R_ne HO_9.out BK233.out (by decide)))
            have n6_ := Aside0.mk (Kd.R_after (ok := (fun _ => True)) (rz_ HO243.out) hg hat)
            have n7_ := Aside0.mk (hb)
            have n8_ := Aside0.mk (ho)
            clear HO_10
            clear HO_229001
            clear HO_234001
            clear BK223
            clear BK228
            clear BK233
            clear HO243
            clear HB
            clear HO_9
            have HO_10 := n0_
            have HO_229001 := n1_
            have HO_234001 := n2_
            have BK223 := n3_
            have BK228 := n4_
            have BK233 := n5_
            have HO243 := n6_
            have HB := n7_
            have HO246 := n8_
            clear n0_ n1_ n2_ n3_ n4_ n5_ n6_ n7_ n8_
            clear ho hb hg hat
            refine hK.out _ _ ⟨((HB.out.cell (World.block_lt_of_cell? w _ hw240_0)).trans hw240_0), ((HB.out.cell (World.block_lt_of_cell? w _ hw240_1)).trans hw240_1), ((HB.out.cell (World.block_lt_of_cell? w _ hw240_2)).trans hw240_2), ((HB.out.cell (World.block_lt_of_cell? w _ hw240_3)).trans hw240_3), ((HB.out.cell (World.block_lt_of_cell? w _ hw247_0)).trans hw247_0), ((HB.out.cell (World.block_lt_of_cell? w _ hw247_1)).trans hw247_1), ((HB.out.cell (World.block_lt_of_cell? w _ hw247_2)).trans hw247_2), ((HB.out.cell (World.block_lt_of_cell? w _ hw247_3)).trans hw247_3)⟩ (fun hHeld => ?_)
            clear hK K
            refine norm_ (a' := ?_) ?_ ?_
            rotate_left
            · show Act.put _ (some 40) _ = _
              simp only [Act.put, List.setIfInBounds_toArray, List.set_cons_zero, List.set_cons_succ, i64_w, i32_w]
              rfl
            refine one_ (i := 12) (N := some 46) #[true, true, true, true, true, true, true, true, true, true, true, true, true, false, false, false] rfl rfl (one_of HT_.out (by kernel_rfl)) (by decide) (fun K hK => ?_)
            refine Kd.R_lit_step k35 _ 35 ?hg (N := 46) ?hd (xs := ([(⟨(rd_T34 l1 x11_1).f0, (rd_T34 l1 x11_1).f1, (rd_T34 l1 x11_1).f2, (rd_T34 l1 x11_1).f3⟩ : S35)] : List (S35))) (inner := [.string ((rd_T34 l1 x11_1).f0), .string ((rd_T34 l1 x11_1).f1), .string ((rd_T34 l1 x11_1).f2), .bool ((rd_T34 l1 x11_1).f3)]) (ok := fun _ => True) (okp := fun _ => True) ?hr ?hp (fun _ hk => hk) trivial (Below.refl _ _) (Nat.le_refl _) (by simp) ?_; (case hd => rfl); (case hg => rfl); (case hr => first | (go_simp; done) | (go_simp; rfl)); (case hp => exact (Reps.c4 (show Kd.M k35 _ _ _ (⟨(rd_T34 l1 x11_1).f0, (rd_T34 l1 x11_1).f1, (rd_T34 l1 x11_1).f2, (rd_T34 l1 x11_1).f3⟩ : S35) [.string ((rd_T34 l1 x11_1).f0), .string ((rd_T34 l1 x11_1).f1), .string ((rd_T34 l1 x11_1).f2), .bool ((rd_T34 l1 x11_1).f3)] from (k35_mkM _ _ _ (⟨(rd_T34 l1 x11_1).f0, (rd_T34 l1 x11_1).f1, (rd_T34 l1 x11_1).f2, (rd_T34 l1 x11_1).f3⟩ : S35) )) (Reps.none _ _)))
            intro v249 w36 ho37 hb hg_ hnew_
            clear hg_ hnew_
            (first | rw [← Ny248.out] at ho37 | (simp only [Int.reduceToNat] at ho37; rw [← Ny248.out] at ho37))
            have n0_ := Aside0.mk (Kd.R_elder' (rz_ HO_10.out) (Kd.R_base ho37) hb)
            have n1_ := Aside0.mk (Kd.V_elder' (by (with_reducible repeat (first | apply Kd.V_alloc | apply Kd.V_drewN | apply Kd.V_drew)); exact HO_229001.out) (Kd.R_base ho37) hb)
            have n2_ := Aside0.mk (Kd.R_below (rz_ HO_234001.out) hb)
            have n3_ := Aside0.mk (Kd.R_below (rz_ HO243.out) hb)
            have n4_ := Aside0.mk (Kd.R_below (rz_ HO246.out) hb)
            have n5_ := Aside0.mk (Kd.R_lower (Kd.R_new' ho37 (Kd.R_lt (rz_ HO_10.out))) (below_size (bs3_ GE223.out GE228.out GE233.out)))
            have n6_ := Aside0.mk (blk_below (g := gb223) (o := .cells #[.string a0_0, .slice A0_1 l0_1.length c0_1] 24 (0, 0)) (kz_ BK223.out) hb)
            have n7_ := Aside0.mk (blk_below (g := gb228) (o := .cells #[.string t224, .slice Ao13 t225.length co13] 24 (0, 0)) (kz_ BK228.out) hb)
            have n8_ := Aside0.mk (blk_below (g := gb233) (o := .cells #[.string t229, .slice Ao19 t230.length co19] 30 (0, 0)) (kz_ BK233.out) hb)
            have n9_ := Aside0.mk (below_step (bs3_ GE223.out GE228.out GE233.out) hb)
            clear HO_10
            clear HO_229001
            clear HO_234001
            clear HO243
            clear HO246
            clear BK223
            clear BK228
            clear BK233
            clear HB
            have HO_10 := n0_
            have HO_229001 := n1_
            have HO_234001 := n2_
            have HO243 := n3_
            have HO246 := n4_
            have HO250 := n5_
            have BK223 := n6_
            have BK228 := n7_
            have BK233 := n8_
            have HB := n9_
            clear n0_ n1_ n2_ n3_ n4_ n5_ n6_ n7_ n8_ n9_
            clear hb ho37
            refine hK.out _ _ ⟨((HB.out.cell (World.block_lt_of_cell? w _ hw240_0)).trans hw240_0), ((HB.out.cell (World.block_lt_of_cell? w _ hw240_1)).trans hw240_1), ((HB.out.cell (World.block_lt_of_cell? w _ hw240_2)).trans hw240_2), ((HB.out.cell (World.block_lt_of_cell? w _ hw240_3)).trans hw240_3), ((HB.out.cell (World.block_lt_of_cell? w _ hw247_0)).trans hw247_0), ((HB.out.cell (World.block_lt_of_cell? w _ hw247_1)).trans hw247_1), ((HB.out.cell (World.block_lt_of_cell? w _ hw247_2)).trans hw247_2), ((HB.out.cell (World.block_lt_of_cell? w _ hw247_3)).trans hw247_3)⟩ (fun hHeld => ?_)
            clear hK K
            refine norm_ (a' := ?_) ?_ ?_
            rotate_left
            · show Act.put _ (some 46) _ = _
              simp only [Act.put, List.setIfInBounds_toArray, List.set_cons_zero, List.set_cons_succ, i64_w, i32_w]
              rfl
            exact norm_ (by simp only [putAll, Act.put, List.setIfInBounds_toArray, List.set_cons_zero, List.set_cons_succ]) (hCont (.slice Ao35 y241.length co35, v245, v249) _ ⟨hHeld, (by (with_reducible repeat (first | apply Kd.R_alloc | apply Kd.R_drewN | apply Kd.R_drew)); exact Kd.R_mono HO243.out (fun _ hk => hk.2)), (rz_ HO246.out), (by (with_reducible repeat (first | apply Kd.R_alloc | apply Kd.R_drewN | apply Kd.R_drew)); exact Kd.R_mono HO250.out (fun _ hk => hk.2)), (by (with_reducible repeat (first | apply Kd.R_alloc | apply Kd.R_drewN | apply Kd.R_drew)); exact Kd.R_mono HO_10.out (fun _ hk => hk.2)), (by (with_reducible repeat (first | apply Kd.V_alloc | apply Kd.V_drewN | apply Kd.V_drew)); exact Kd.V_mono HO_229001.out (fun _ hk => ⟨hk.1.1.2.2.1, ⟨hk.1.2, ⟨hk.2, ⟨hk.1.1.1, ⟨hk.1.1.2.1, ⟨hk.1.1.2.2.2.1, ⟨hk.1.1.2.2.2.2.1, hk.1.1.2.2.2.2.2⟩⟩⟩⟩⟩⟩⟩)), (rz_ HO_234001.out), (kz_ BK223.out), (kz_ BK228.out), (kz_ BK233.out), (bs3_ GE223.out GE228.out GE233.out)⟩)
           ·
            skip
            refine Kd.R_lit_step k35 _ 35 ?hg (N := 46) ?hd (xs := ([(⟨(rd_T34 l1 x11_1).f0, (rd_T34 l1 x11_1).f1, (rd_T34 l1 x11_1).f2, (rd_T34 l1 x11_1).f3⟩ : S35)] : List (S35))) (inner := [.string ((rd_T34 l1 x11_1).f0), .string ((rd_T34 l1 x11_1).f1), .string ((rd_T34 l1 x11_1).f2), .bool ((rd_T34 l1 x11_1).f3)]) (ok := fun _ => True) (okp := fun _ => True) ?hr ?hp (fun _ hk => hk) trivial (Below.refl _ _) (Nat.le_refl _) (by simp) ?_; (case hd => rfl); (case hg => rfl); (case hr => first | (go_simp; done) | (go_simp; rfl)); (case hp => exact (Reps.c4 (show Kd.M k35 _ _ _ (⟨(rd_T34 l1 x11_1).f0, (rd_T34 l1 x11_1).f1, (rd_T34 l1 x11_1).f2, (rd_T34 l1 x11_1).f3⟩ : S35) [.string ((rd_T34 l1 x11_1).f0), .string ((rd_T34 l1 x11_1).f1), .string ((rd_T34 l1 x11_1).f2), .bool ((rd_T34 l1 x11_1).f3)] from (k35_mkM _ _ _ (⟨(rd_T34 l1 x11_1).f0, (rd_T34 l1 x11_1).f1, (rd_T34 l1 x11_1).f2, (rd_T34 l1 x11_1).f3⟩ : S35) )) (Reps.none _ _)))
            intro v249 w34 ho35 hb hg_ hnew_
            clear hg_ hnew_
            (first | rw [← Ny248.out] at ho35 | (simp only [Int.reduceToNat] at ho35; rw [← Ny248.out] at ho35))
            have n0_ := Aside0.mk (Kd.R_below (rz_ HO_9.out) hb)
            have n1_ := Aside0.mk (Kd.R_elder' (rz_ HO_10.out) (Kd.R_base ho35) hb)
            have n2_ := Aside0.mk (Kd.V_elder' (by (with_reducible repeat (first | apply Kd.V_alloc | apply Kd.V_drewN | apply Kd.V_drew)); exact HO_229001.out) (Kd.R_base ho35) hb)
            have n3_ := Aside0.mk (Kd.R_below (rz_ HO_234001.out) hb)
            have n4_ := Aside0.mk (Kd.R_below (rz_ HO243.out) hb)
            have n5_ := Aside0.mk (Kd.R_lower (Kd.R_new' ho35 (Kd.R_lt (rz_ HO_10.out))) (below_size (bs3_ GE223.out GE228.out GE233.out)))
            have n6_ := Aside0.mk (blk_below (g := gb223) (o := .cells #[.string a0_0, .slice A0_1 l0_1.length c0_1] 24 (0, 0)) (kz_ BK223.out) hb)
            have n7_ := Aside0.mk (blk_below (g := gb228) (o := .cells #[.string t224, .slice Ao13 t225.length co13] 24 (0, 0)) (kz_ BK228.out) hb)
            have n8_ := Aside0.mk (blk_below (g := gb233) (o := .cells #[.string t229, .slice Ao19 t230.length co19] 30 (0, 0)) (kz_ BK233.out) hb)
            have n9_ := Aside0.mk (below_step (bs3_ GE223.out GE228.out GE233.out) hb)
            clear HO_9
            clear HO_10
            clear HO_229001
            clear HO_234001
            clear HO243
            clear BK223
            clear BK228
            clear BK233
            clear HB
            have HO_9 := n0_
            have HO_10 := n1_
            have HO_229001 := n2_
            have HO_234001 := n3_
            have HO243 := n4_
            have HO250 := n5_
            have BK223 := n6_
            have BK228 := n7_
            have BK233 := n8_
            have HB := n9_
            clear n0_ n1_ n2_ n3_ n4_ n5_ n6_ n7_ n8_ n9_
            clear hb ho35
            obtain ⟨Ao37, co37, eo37⟩ := Kd.R_slice HO243.out
            (first | subst eo37 | (injection eo37 with f1_ f2_ f3_; have f4_ := f1_.symm; have f5_ := f3_.symm; clear f1_ f2_ f3_; subst f4_; subst f5_))
            refine hK.out _ _ ⟨((HB.out.cell (World.block_lt_of_cell? w _ hw240_0)).trans hw240_0), ((HB.out.cell (World.block_lt_of_cell? w _ hw240_1)).trans hw240_1), ((HB.out.cell (World.block_lt_of_cell? w _ hw240_2)).trans hw240_2), ((HB.out.cell (World.block_lt_of_cell? w _ hw240_3)).trans hw240_3), ((HB.out.cell (World.block_lt_of_cell? w _ hw247_0)).trans hw247_0), ((HB.out.cell (World.block_lt_of_cell? w _ hw247_1)).trans hw247_1), ((HB.out.cell (World.block_lt_of_cell? w _ hw247_2)).trans hw247_2), ((HB.out.cell (World.block_lt_of_cell? w _ hw247_3)).trans hw247_3)⟩ (fun hHeld => ?_)
            clear hK K
            refine norm_ (a' := ?_) ?_ ?_
            rotate_left
            · show Act.put _ (some 46) _ = _
              simp only [Act.put, List.setIfInBounds_toArray, List.set_cons_zero, List.set_cons_succ, i64_w, i32_w]
              rfl
            refine one_ (i := 6) (N := some 40) #[true, true, true, true, true, true, true, true, true, true, true, true, true, false, false, false] rfl rfl (one_of HT_.out (by kernel_rfl)) (by decide) (fun K hK => ?_)
            refine Kd.R_append_rows_step k34 (w0 := w) w.heap.size (by rfl) (.tmp 34) (.tmp 39) 25 34 (.agg #[(.string ⟨#[]⟩), (.string ⟨#[]⟩), (.string ⟨#[]⟩), (.bool false)]) 56 rfl Try.underlying25 info34 rfl (by decide) (by omega) (.slice Ao29 x9_1.length co29) x9_1 y241 _ _ _ (fun k_ => some k_ ≠ (.slice Ao37 y241.length co37 : Value).ownBlock) (fun _ => False) rfl rfl ?aO ?aR (fun _ _ h => h) (fun _ h => h.elim) ?aF ?aB ?aS ?aL ?_
            (case aR => repeat (first | exact (Kd.R_reads' HO243.out).2.2 | (with_reducible refine Kd.C_alloc ?_ _) | (with_reducible refine Kd.C_drewN ?_ _) | (with_reducible refine Kd.C_drew ?_)))
            (case aB => exact (bs3_ GE223.out GE228.out GE233.out))
            (case aF => exact (fun k_ hk => Kd.fresh' (Kd.R_lt (rz_ HO243.out)) k_ hk))
            (case aO => exact (by (with_reducible repeat (first | apply Kd.R_alloc | apply Kd.R_drewN | apply Kd.R_drew)); exact Kd.R_mono HO_9.out (fun _ hk => hk.2)))
            (case aS => exact (below_size (bs3_ GE223.out GE228.out GE233.out)))
            (case aL => have := LMc27.out; omega)
            intro v245 w36 ho hb hg hat
            rw [← Ny244.out] at ho
            have n0_ := Aside0.mk (Kd.R_over' (rz_ HO_10.out) (Kd.R_typed (rz_ HO_9.out)) (by decide) hg)
            have n1_ := Aside0.mk (Kd.V_afterv (ok := (fun k_ => some k_ ≠ (.slice Ao30 x10_1.length co30 : Value).ownBlock ∧ some k_ ≠ (.slice Ao19 t230.length co19 : Value).ownBlock ∧ some k_ ≠ (.slice Ao37 y241.length co37 : Value).ownBlock ∧ some k_ ≠ (v249 : Value).ownBlock ∧ k_ ≠ gb223 ∧ k_ ≠ gb228 ∧ k_ ≠ gb233)) (by (with_reducible repeat (first | apply Kd.V_alloc | apply Kd.V_drewN | apply Kd.V_drew)); exact Kd.V_mono HO_229001.out (fun _ hk => ⟨⟨hk.1.1.2.1, ⟨hk.1.1.2.2.1, ⟨hk.1.2, ⟨hk.2, ⟨hk.1.1.2.2.2.1, ⟨hk.1.1.2.2.2.2.1, hk.1.1.2.2.2.2.2⟩⟩⟩⟩⟩⟩, hk.1.1.1⟩)) hg hat)
            have n2_ := Aside0.mk (Kd.R_over' (rz_ HO_234001.out) (Kd.R_typed (rz_ HO_9.out)) (by decide) hg)
            have n3_ := Aside0.mk (blk_grown (g := gb223) (o := .cells #[.string a0_0, .slice A0_1 l0_1.length c0_1] 24 (0, 0)) (kz_ BK223.out) hg (Kd.R_ne HO_9.out BK223.out (by decide)))
            have n4_ := Aside0.mk (blk_grown (g := gb228) (o := .cells #[.string t224, .slice Ao13 t225.length co13] 24 (0, 0)) (kz_ BK228.out) hg (Kd.R_ne HO_9.out BK228.out (by decide)))
            have n5_ := Aside0.mk (blk_grown (g := gb233) (o := .cells #[.string t229, .slice Ao19 t230.length co19] 30 (0, 0)) (kz_ BK233.out) hg (Kd.R_ne HO_9.out BK233.out (by decide)))
            have n6_ := Aside0.mk (Kd.R_after (ok := (fun _ => True)) (rz_ HO243.out) hg hat)
            have n7_ := Aside0.mk (Kd.R_over' (rz_ HO250.out) (Kd.R_typed (rz_ HO_9.out)) (by decide) hg)
            have n8_ := Aside0.mk (hb)
            have n9_ := Aside0.mk (ho)
            clear HO_10
            clear HO_229001
            clear HO_234001
            clear BK223
            clear BK228
            clear BK233
            clear HO243
            clear HO250
            clear HB
            clear HO_9
            have HO_10 := n0_
            have HO_229001 := n1_
            have HO_234001 := n2_
            have BK223 := n3_
            have BK228 := n4_
            have BK233 := n5_
            have HO243 := n6_
            have HO250 := n7_
            have HB := n8_
            have HO246 := n9_
            clear n0_ n1_ n2_ n3_ n4_ n5_ n6_ n7_ n8_ n9_
            clear ho hb hg hat
            refine hK.out _ _ ⟨((HB.out.cell (World.block_lt_of_cell? w _ hw240_0)).trans hw240_0), ((HB.out.cell (World.block_lt_of_cell? w _ hw240_1)).trans hw240_1), ((HB.out.cell (World.block_lt_of_cell? w _ hw240_2)).trans hw240_2), ((HB.out.cell (World.block_lt_of_cell? w _ hw240_3)).trans hw240_3), ((HB.out.cell (World.block_lt_of_cell? w _ hw247_0)).trans hw247_0), ((HB.out.cell (World.block_lt_of_cell? w _ hw247_1)).trans hw247_1), ((HB.out.cell (World.block_lt_of_cell? w _ hw247_2)).trans hw247_2), ((HB.out.cell (World.block_lt_of_cell? w _ hw247_3)).trans hw247_3)⟩ (fun hHeld => ?_)
            clear hK K
            refine norm_ (a' := ?_) ?_ ?_
            rotate_left
            · show Act.put _ (some 40) _ = _
              simp only [Act.put, List.setIfInBounds_toArray, List.set_cons_zero, List.set_cons_succ, i64_w, i32_w]
              rfl
            exact norm_ (by simp only [putAll, Act.put, List.setIfInBounds_toArray, List.set_cons_zero, List.set_cons_succ]) (hCont (.slice Ao37 y241.length co37, v245, v249) _ ⟨hHeld, (by (with_reducible repeat (first | apply Kd.R_alloc | apply Kd.R_drewN | apply Kd.R_drew)); exact Kd.R_mono HO243.out (fun _ hk => hk.2)), (rz_ HO246.out), (by (with_reducible repeat (first | apply Kd.R_alloc | apply Kd.R_drewN | apply Kd.R_drew)); exact Kd.R_mono HO250.out (fun _ hk => hk.2)), (by (with_reducible repeat (first | apply Kd.R_alloc | apply Kd.R_drewN | apply Kd.R_drew)); exact Kd.R_mono HO_10.out (fun _ hk => hk.2)), (by (with_reducible repeat (first | apply Kd.V_alloc | apply Kd.V_drewN | apply Kd.V_drew)); exact Kd.V_mono HO_229001.out (fun _ hk => ⟨hk.1.2.2.1, ⟨hk.2, ⟨hk.1.2.2.2.1, ⟨hk.1.1, ⟨hk.1.2.1, ⟨hk.1.2.2.2.2.1, ⟨hk.1.2.2.2.2.2.1, hk.1.2.2.2.2.2.2⟩⟩⟩⟩⟩⟩⟩)), (rz_ HO_234001.out), (kz_ BK223.out), (kz_ BK228.out), (kz_ BK233.out), (bs3_ GE223.out GE228.out GE233.out)⟩)
          ·
           skip
           refine Kd.R_lit_step k35 _ 35 ?hg (N := 46) ?hd (xs := ([(⟨(rd_T34 l1 x11_1).f0, (rd_T34 l1 x11_1).f1, (rd_T34 l1 x11_1).f2, (rd_T34 l1 x11_1).f3⟩ : S35)] : List (S35))) (inner := [.string ((rd_T34 l1 x11_1).f0), .string ((rd_T34 l1 x11_1).f1), .string ((rd_T34 l1 x11_1).f2), .bool ((rd_T34 l1 x11_1).f3)]) (ok := fun _ => True) (okp := fun _ => True) ?hr ?hp (fun _ hk => hk) trivial (Below.refl _ _) (Nat.le_refl _) (by simp) ?_; (case hd => rfl); (case hg => rfl); (case hr => first | (go_simp; done) | (go_simp; rfl)); (case hp => exact (Reps.c4 (show Kd.M k35 _ _ _ (⟨(rd_T34 l1 x11_1).f0, (rd_T34 l1 x11_1).f1, (rd_T34 l1 x11_1).f2, (rd_T34 l1 x11_1).f3⟩ : S35) [.string ((rd_T34 l1 x11_1).f0), .string ((rd_T34 l1 x11_1).f1), .string ((rd_T34 l1 x11_1).f2), .bool ((rd_T34 l1 x11_1).f3)] from (k35_mkM _ _ _ (⟨(rd_T34 l1 x11_1).f0, (rd_T34 l1 x11_1).f1, (rd_T34 l1 x11_1).f2, (rd_T34 l1 x11_1).f3⟩ : S35) )) (Reps.none _ _)))
           intro v249 w32 ho33 hb hg_ hnew_
           clear hg_ hnew_
           (first | rw [← Ny248.out] at ho33 | (simp only [Int.reduceToNat] at ho33; rw [← Ny248.out] at ho33))
           have n0_ := Aside0.mk (Kd.R_below (rz_ HO_9.out) hb)
           have n1_ := Aside0.mk (Kd.R_elder' (rz_ HO_10.out) (Kd.R_base ho33) hb)
           have n2_ := Aside0.mk (Kd.V_elder' (by (with_reducible repeat (first | apply Kd.V_alloc | apply Kd.V_drewN | apply Kd.V_drew)); exact HO_229001.out) (Kd.R_base ho33) hb)
           have n3_ := Aside0.mk (Kd.R_below (rz_ HO_234001.out) hb)
           have n4_ := Aside0.mk (Kd.R_lower (Kd.R_new' ho33 (Kd.R_lt (rz_ HO_10.out))) (below_size (bs3_ GE223.out GE228.out GE233.out)))
           have n5_ := Aside0.mk (blk_below (g := gb223) (o := .cells #[.string a0_0, .slice A0_1 l0_1.length c0_1] 24 (0, 0)) (kz_ BK223.out) hb)
           have n6_ := Aside0.mk (blk_below (g := gb228) (o := .cells #[.string t224, .slice Ao13 t225.length co13] 24 (0, 0)) (kz_ BK228.out) hb)
           have n7_ := Aside0.mk (blk_below (g := gb233) (o := .cells #[.string t229, .slice Ao19 t230.length co19] 30 (0, 0)) (kz_ BK233.out) hb)
           have n8_ := Aside0.mk (below_step (bs3_ GE223.out GE228.out GE233.out) hb)
           clear HO_9
           clear HO_10
           clear HO_229001
           clear HO_234001
           clear BK223
           clear BK228
           clear BK233
           clear HB
           have HO_9 := n0_
           have HO_10 := n1_
           have HO_229001 := n2_
           have HO_234001 := n3_
           have HO250 := n4_
           have BK223 := n5_
           have BK228 := n6_
           have BK233 := n7_
           have HB := n8_
           clear n0_ n1_ n2_ n3_ n4_ n5_ n6_ n7_ n8_
           clear hb ho33
           refine hK.out _ _ ⟨((HB.out.cell (World.block_lt_of_cell? w _ hw240_0)).trans hw240_0), ((HB.out.cell (World.block_lt_of_cell? w _ hw240_1)).trans hw240_1), ((HB.out.cell (World.block_lt_of_cell? w _ hw240_2)).trans hw240_2), ((HB.out.cell (World.block_lt_of_cell? w _ hw240_3)).trans hw240_3), ((HB.out.cell (World.block_lt_of_cell? w _ hw247_0)).trans hw247_0), ((HB.out.cell (World.block_lt_of_cell? w _ hw247_1)).trans hw247_1), ((HB.out.cell (World.block_lt_of_cell? w _ hw247_2)).trans hw247_2), ((HB.out.cell (World.block_lt_of_cell? w _ hw247_3)).trans hw247_3)⟩ (fun hHeld => ?_)
           clear hK K
           refine norm_ (a' := ?_) ?_ ?_
           rotate_left
           · show Act.put _ (some 46) _ = _
             simp only [Act.put, List.setIfInBounds_toArray, List.set_cons_zero, List.set_cons_succ, i64_w, i32_w]
             rfl
           refine one_ (i := 5) (N := some 39) #[true, true, true, true, true, true, false, true, true, true, true, true, true, false, false, false] rfl rfl (one_of HT_.out (by kernel_rfl)) (by decide) (fun K hK => ?_)
           refine Kd.R_lit_step k34 _ 34 ?hg (N := 39) ?hd (xs := ([(⟨(rd_T34 l1 x11_1).f0, (rd_T34 l1 x11_1).f1, (rd_T34 l1 x11_1).f2, (rd_T34 l1 x11_1).f3⟩ : S34)] : List (S34))) (inner := [.string ((rd_T34 l1 x11_1).f0), .string ((rd_T34 l1 x11_1).f1), .string ((rd_T34 l1 x11_1).f2), .bool ((rd_T34 l1 x11_1).f3)]) (ok := fun _ => True) (okp := fun _ => True) ?hr ?hp (fun _ hk => hk) trivial (Below.refl _ _) (Nat.le_refl _) (by simp) ?_; (case hd => rfl); (case hg => rfl); (case hr => first | (go_simp; done) | (go_simp; rfl)); (case hp => exact (Reps.c4 (show Kd.M k34 _ _ _ (⟨(rd_T34 l1 x11_1).f0, (rd_T34 l1 x11_1).f1, (rd_T34 l1 x11_1).f2, (rd_T34 l1 x11_1).f3⟩ : S34) [.string ((rd_T34 l1 x11_1).f0), .string ((rd_T34 l1 x11_1).f1), .string ((rd_T34 l1 x11_1).f2), .bool ((rd_T34 l1 x11_1).f3)] from (k34_mkM _ _ _ (⟨(rd_T34 l1 x11_1).f0, (rd_T34 l1 x11_1).f1, (rd_T34 l1 x11_1).f2, (rd_T34 l1 x11_1).f3⟩ : S34) )) (Reps.none _ _)))
           intro v242 w34 ho35 hb hg_ hnew_
           clear hg_ hnew_
           (first | rw [← Ny241.out] at ho35 | (simp only [Int.reduceToNat] at ho35; rw [← Ny241.out] at ho35))
           have n0_ := Aside0.mk (Kd.R_elder' (rz_ HO_9.out) (Kd.R_base ho35) hb)
           have n1_ := Aside0.mk (Kd.R_below (rz_ HO_10.out) hb)
           have n2_ := Aside0.mk (Kd.V_elder' (by (with_reducible repeat (first | apply Kd.V_alloc | apply Kd.V_drewN | apply Kd.V_drew)); exact HO_229001.out) (Kd.R_base ho35) hb)
           have n3_ := Aside0.mk (Kd.R_below (rz_ HO_234001.out) hb)
           have n4_ := Aside0.mk (Kd.R_below (rz_ HO250.out) hb)
           have n5_ := Aside0.mk (Kd.R_lower (Kd.R_new' ho35 (Kd.R_lt (rz_ HO_9.out))) (below_size (bs3_ GE223.out GE228.out GE233.out)))
           have n6_ := Aside0.mk (blk_below (g := gb223) (o := .cells #[.string a0_0, .slice A0_1 l0_1.length c0_1] 24 (0, 0)) (kz_ BK223.out) hb)
           have n7_ := Aside0.mk (blk_below (g := gb228) (o := .cells #[.string t224, .slice Ao13 t225.length co13] 24 (0, 0)) (kz_ BK228.out) hb)
           have n8_ := Aside0.mk (blk_below (g := gb233) (o := .cells #[.string t229, .slice Ao19 t230.length co19] 30 (0, 0)) (kz_ BK233.out) hb)
           have n9_ := Aside0.mk (below_step (bs3_ GE223.out GE228.out GE233.out) hb)
           clear HO_9
           clear HO_10
           clear HO_229001
           clear HO_234001
           clear HO250
           clear BK223
           clear BK228
           clear BK233
           clear HB
           have HO_9 := n0_
           have HO_10 := n1_
           have HO_229001 := n2_
           have HO_234001 := n3_
           have HO250 := n4_
           have HO243 := n5_
           have BK223 := n6_
           have BK228 := n7_
           have BK233 := n8_
           have HB := n9_
           clear n0_ n1_ n2_ n3_ n4_ n5_ n6_ n7_ n8_ n9_
           clear hb ho35
           obtain ⟨Ao37, co37, eo37⟩ := Kd.R_slice HO243.out
           (first | subst eo37 | (injection eo37 with f1_ f2_ f3_; have f4_ := f1_.symm; have f5_ := f3_.symm; clear f1_ f2_ f3_; subst f4_; subst f5_))
           refine hK.out _ _ ⟨((HB.out.cell (World.block_lt_of_cell? w _ hw240_0)).trans hw240_0), ((HB.out.cell (World.block_lt_of_cell? w _ hw240_1)).trans hw240_1), ((HB.out.cell (World.block_lt_of_cell? w _ hw240_2)).trans hw240_2), ((HB.out.cell (World.block_lt_of_cell? w _ hw240_3)).trans hw240_3), ((HB.out.cell (World.block_lt_of_cell? w _ hw247_0)).trans hw247_0), ((HB.out.cell (World.block_lt_of_cell? w _ hw247_1)).trans hw247_1), ((HB.out.cell (World.block_lt_of_cell? w _ hw247_2)).trans hw247_2), ((HB.out.cell (World.block_lt_of_cell? w _ hw247_3)).trans hw247_3)⟩ (fun hHeld => ?_)
           clear hK K
           refine norm_ (a' := ?_) ?_ ?_
           rotate_left
           · show Act.put _ (some 39) _ = _
             simp only [Act.put, List.setIfInBounds_toArray, List.set_cons_zero, List.set_cons_succ, i64_w, i32_w]
             rfl
           refine one_ (i := 6) (N := some 40) #[true, true, true, true, true, true, true, true, true, true, true, true, true, false, false, false] rfl rfl (one_of HT_.out (by kernel_rfl)) (by decide) (fun K hK => ?_)
           refine Kd.R_append_rows_step k34 (w0 := w) w.heap.size (by rfl) (.tmp 34) (.tmp 39) 25 34 (.agg #[(.string ⟨#[]⟩), (.string ⟨#[]⟩), (.string ⟨#[]⟩), (.bool false)]) 56 rfl Try.underlying25 info34 rfl (by decide) (by omega) (.slice Ao29 x9_1.length co29) x9_1 y241 _ _ _ (fun k_ => some k_ ≠ (.slice Ao37 y241.length co37 : Value).ownBlock) (fun _ => False) rfl rfl ?aO ?aR (fun _ _ h => h) (fun _ h => h.elim) ?aF ?aB ?aS ?aL ?_
           (case aR => repeat (first | exact (Kd.R_reads' HO243.out).2.2 | (with_reducible refine Kd.C_alloc ?_ _) | (with_reducible refine Kd.C_drewN ?_ _) | (with_reducible refine Kd.C_drew ?_)))
           (case aB => exact (bs3_ GE223.out GE228.out GE233.out))
           (case aF => exact (fun k_ hk => Kd.fresh' (Kd.R_lt (rz_ HO243.out)) k_ hk))
           (case aO => exact (by (with_reducible repeat (first | apply Kd.R_alloc | apply Kd.R_drewN | apply Kd.R_drew)); exact Kd.R_mono HO_9.out (fun _ hk => hk.2)))
           (case aS => exact (below_size (bs3_ GE223.out GE228.out GE233.out)))
           (case aL => have := LMc27.out; omega)
           intro v245 w36 ho hb hg hat
           rw [← Ny244.out] at ho
           have n0_ := Aside0.mk (Kd.R_over' (rz_ HO_10.out) (Kd.R_typed (rz_ HO_9.out)) (by decide) hg)
           have n1_ := Aside0.mk (Kd.V_afterv (ok := (fun k_ => some k_ ≠ (.slice Ao30 x10_1.length co30 : Value).ownBlock ∧ some k_ ≠ (.slice Ao19 t230.length co19 : Value).ownBlock ∧ some k_ ≠ (v249 : Value).ownBlock ∧ some k_ ≠ (.slice Ao37 y241.length co37 : Value).ownBlock ∧ k_ ≠ gb223 ∧ k_ ≠ gb228 ∧ k_ ≠ gb233)) (by (with_reducible repeat (first | apply Kd.V_alloc | apply Kd.V_drewN | apply Kd.V_drew)); exact Kd.V_mono HO_229001.out (fun _ hk => ⟨⟨hk.1.1.2.1, ⟨hk.1.1.2.2.1, ⟨hk.1.2, ⟨hk.2, ⟨hk.1.1.2.2.2.1, ⟨hk.1.1.2.2.2.2.1, hk.1.1.2.2.2.2.2⟩⟩⟩⟩⟩⟩, hk.1.1.1⟩)) hg hat)
           have n2_ := Aside0.mk (Kd.R_over' (rz_ HO_234001.out) (Kd.R_typed (rz_ HO_9.out)) (by decide) hg)
           have n3_ := Aside0.mk (blk_grown (g := gb223) (o := .cells #[.string a0_0, .slice A0_1 l0_1.length c0_1] 24 (0, 0)) (kz_ BK223.out) hg (Kd.R_ne HO_9.out BK223.out (by decide)))
           have n4_ := Aside0.mk (blk_grown (g := gb228) (o := .cells #[.string t224, .slice Ao13 t225.length co13] 24 (0, 0)) (kz_ BK228.out) hg (Kd.R_ne HO_9.out BK228.out (by decide)))
           have n5_ := Aside0.mk (blk_grown (g := gb233) (o := .cells #[.string t229, .slice Ao19 t230.length co19] 30 (0, 0)) (kz_ BK233.out) hg (Kd.R_ne HO_9.out BK233.out (by decide)))
           have n6_ := Aside0.mk (Kd.R_over' (rz_ HO250.out) (Kd.R_typed (rz_ HO_9.out)) (by decide) hg)
           have n7_ := Aside0.mk (Kd.R_after (ok := (fun _ => True)) (rz_ HO243.out) hg hat)
           have n8_ := Aside0.mk (hb)
           have n9_ := Aside0.mk (ho)
           clear HO_10
           clear HO_229001
           clear HO_234001
           clear BK223
           clear BK228
           clear BK233
           clear HO250
           clear HO243
           clear HB
           clear HO_9
           have HO_10 := n0_
           have HO_229001 := n1_
           have HO_234001 := n2_
           have BK223 := n3_
           have BK228 := n4_
           have BK233 := n5_
           have HO250 := n6_
           have HO243 := n7_
           have HB := n8_
           have HO246 := n9_
           clear n0_ n1_ n2_ n3_ n4_ n5_ n6_ n7_ n8_ n9_
           clear ho hb hg hat
           refine hK.out _ _ ⟨((HB.out.cell (World.block_lt_of_cell? w _ hw240_0)).trans hw240_0), ((HB.out.cell (World.block_lt_of_cell? w _ hw240_1)).trans hw240_1), ((HB.out.cell (World.block_lt_of_cell? w _ hw240_2)).trans hw240_2), ((HB.out.cell (World.block_lt_of_cell? w _ hw240_3)).trans hw240_3), ((HB.out.cell (World.block_lt_of_cell? w _ hw247_0)).trans hw247_0), ((HB.out.cell (World.block_lt_of_cell? w _ hw247_1)).trans hw247_1), ((HB.out.cell (World.block_lt_of_cell? w _ hw247_2)).trans hw247_2), ((HB.out.cell (World.block_lt_of_cell? w _ hw247_3)).trans hw247_3)⟩ (fun hHeld => ?_)
           clear hK K
           refine norm_ (a' := ?_) ?_ ?_
           rotate_left
           · show Act.put _ (some 40) _ = _
             simp only [Act.put, List.setIfInBounds_toArray, List.set_cons_zero, List.set_cons_succ, i64_w, i32_w]
             rfl
           exact norm_ (by simp only [putAll, Act.put, List.setIfInBounds_toArray, List.set_cons_zero, List.set_cons_succ]) (hCont (.slice Ao37 y241.length co37, v245, v249) _ ⟨hHeld, (by (with_reducible repeat (first | apply Kd.R_alloc | apply Kd.R_drewN | apply Kd.R_drew)); exact Kd.R_mono HO243.out (fun _ hk => hk.2)), (rz_ HO246.out), (by (with_reducible repeat (first | apply Kd.R_alloc | apply Kd.R_drewN | apply Kd.R_drew)); exact Kd.R_mono HO250.out (fun _ hk => hk.2)), (by (with_reducible repeat (first | apply Kd.R_alloc | apply Kd.R_drewN | apply Kd.R_drew)); exact Kd.R_mono HO_10.out (fun _ hk => hk.2)), (by (with_reducible repeat (first | apply Kd.V_alloc | apply Kd.V_drewN | apply Kd.V_drew)); exact Kd.V_mono HO_229001.out (fun _ hk => ⟨hk.1.2.2.2.1, ⟨hk.2, ⟨hk.1.2.2.1, ⟨hk.1.1, ⟨hk.1.2.1, ⟨hk.1.2.2.2.2.1, ⟨hk.1.2.2.2.2.2.1, hk.1.2.2.2.2.2.2⟩⟩⟩⟩⟩⟩⟩)), (rz_ HO_234001.out), (kz_ BK223.out), (kz_ BK228.out), (kz_ BK233.out), (bs3_ GE223.out GE228.out GE233.out)⟩)
         rintro ⟨v242, v245, v249⟩ w38 ⟨hS_, h0_, h1_, h2_, h3_, h4_, h5_, h6_, h7_, h8_, h9_⟩
         have n0_ : Aside0 (Kd.R k34 34 w38 w.heap.size (fun k_ => some k_ ≠ (v245 : Value).ownBlock) v242 y241) := ⟨h0_⟩
         have n1_ : Aside0 (Kd.R k34 34 w38 w.heap.size (fun k_ => some k_ ≠ (v242 : Value).ownBlock) v245 y244) := ⟨h1_⟩
         have n2_ : Aside0 (Kd.R k35 35 w38 w.heap.size (fun k_ => some k_ ≠ (.slice Ao30 x10_1.length co30 : Value).ownBlock) v249 y248) := ⟨h2_⟩
         have n3_ : Aside0 (Kd.R k35 35 w38 w.heap.size (fun k_ => some k_ ≠ (v249 : Value).ownBlock) (.slice Ao30 x10_1.length co30) x10_1) := ⟨h3_⟩
         have n4_ : Aside0 (Kd.V k50 50 w38 w.heap.size (fun k_ => some k_ ≠ (v242 : Value).ownBlock ∧ some k_ ≠ (v245 : Value).ownBlock ∧ some k_ ≠ (v249 : Value).ownBlock ∧ some k_ ≠ (.slice Ao30 x10_1.length co30 : Value).ownBlock ∧ some k_ ≠ (.slice Ao19 t230.length co19 : Value).ownBlock ∧ k_ ≠ gb223 ∧ k_ ≠ gb228 ∧ k_ ≠ gb233) (.slice Ao13 t225.length co13) t225) := ⟨h4_⟩
         have n5_ : Aside0 (Kd.R k61 61 w38 w.heap.size (fun _ => True) (.slice Ao19 t230.length co19) t230) := ⟨h5_⟩
         have n6_ : Aside0 (w38.heap[gb223]? = some (.cells #[.string a0_0, .slice A0_1 l0_1.length c0_1] 24 (0, 0))) := ⟨h6_⟩
         have n7_ : Aside0 (w38.heap[gb228]? = some (.cells #[.string t224, .slice Ao13 t225.length co13] 24 (0, 0))) := ⟨h7_⟩
         have n8_ : Aside0 (w38.heap[gb233]? = some (.cells #[.string t229, .slice Ao19 t230.length co19] 30 (0, 0))) := ⟨h8_⟩
         have n9_ : Aside0 (Below w.heap.size w w38) := ⟨h9_⟩
         clear HO_9
         clear HO_10
         clear HO_229001
         clear HO_234001
         clear BK223
         clear BK228
         clear BK233
         clear HB
         clear h0_ h1_ h2_ h3_ h4_ h5_ h6_ h7_ h8_ h9_
         have HO243 := n0_
         have HO246 := n1_
         have HO250 := n2_
         have HO_10 := n3_
         have HO_229001 := n4_
         have HO_234001 := n5_
         have BK223 := n6_
         have BK228 := n7_
         have BK233 := n8_
         have HB := n9_
         clear n0_ n1_ n2_ n3_ n4_ n5_ n6_ n7_ n8_ n9_
         have hHeld : w38.cell? (ad240.add ((x11_1).toNat * 4)) = some (.string ((rd_T34 l1 x11_1).f0)) ∧ w38.cell? ⟨(ad240.add ((x11_1).toNat * 4)).block, (ad240.add ((x11_1).toNat * 4)).off + 1, none⟩ = some (.string ((rd_T34 l1 x11_1).f1)) ∧ w38.cell? ⟨(ad240.add ((x11_1).toNat * 4)).block, (ad240.add ((x11_1).toNat * 4)).off + 2, none⟩ = some (.string ((rd_T34 l1 x11_1).f2)) ∧ w38.cell? ⟨(ad240.add ((x11_1).toNat * 4)).block, (ad240.add ((x11_1).toNat * 4)).off + 3, none⟩ = some (.bool ((rd_T34 l1 x11_1).f3)) ∧ w38.cell? (ad240.add ((x11_1).toNat * 4)) = some (.string ((rd_T34 l1 x11_1).f0)) ∧ w38.cell? ⟨(ad240.add ((x11_1).toNat * 4)).block, (ad240.add ((x11_1).toNat * 4)).off + 1, none⟩ = some (.string ((rd_T34 l1 x11_1).f1)) ∧ w38.cell? ⟨(ad240.add ((x11_1).toNat * 4)).block, (ad240.add ((x11_1).toNat * 4)).off + 2, none⟩ = some (.string ((rd_T34 l1 x11_1).f2)) ∧ w38.cell? ⟨(ad240.add ((x11_1).toNat * 4)).block, (ad240.add ((x11_1).toNat * 4)).off + 3, none⟩ = some (.bool ((rd_T34 l1 x11_1).f3)) := hS_
         obtain ⟨Ao40, co40, eo40⟩ := Kd.R_slice HO250.out
         (first | subst eo40 | (injection eo40 with f1_ f2_ f3_; have f4_ := f1_.symm; have f5_ := f3_.symm; clear f1_ f2_ f3_; subst f4_; subst f5_))
         refine norm_ (a' := ?_) ?_ ?_
         rotate_left
         · simp only [putAll, Act.put, List.setIfInBounds_toArray, List.set_cons_zero, List.set_cons_succ]
           rfl
         refine one_ (i := 13) (N := some 47) #[true, true, true, true, true, true, true, true, true, true, true, true, true, true, false, false] rfl rfl (one_of HT_.out (by kernel_rfl)) (by decide) (fun K hK => ?_)
         refine Kd.R_append_rows_step k35 (w0 := w) w.heap.size (by rfl) (.tmp 41) (.tmp 46) 32 35 (.agg #[(.string ⟨#[]⟩), (.string ⟨#[]⟩), (.string ⟨#[]⟩), (.bool false)]) 56 rfl Try.underlying32 info35 rfl (by decide) (by omega) (.slice Ao30 x10_1.length co30) x10_1 y248 _ _ _ (fun k_ => some k_ ≠ (.slice Ao40 y248.length co40 : Value).ownBlock) (fun _ => False) rfl rfl ?aO ?aR (fun _ _ h => h) (fun _ h => h.elim) ?aF ?aB ?aS ?aL ?_
         (case aR => repeat (first | exact (Kd.R_reads' HO250.out).2.2 | (with_reducible refine Kd.C_alloc ?_ _) | (with_reducible refine Kd.C_drewN ?_ _) | (with_reducible refine Kd.C_drew ?_)))
         (case aB => exact (bs3_ GE223.out GE228.out GE233.out))
         (case aF => exact (fun k_ hk => Kd.fresh' (Kd.R_lt (rz_ HO250.out)) k_ hk))
         (case aO => exact (rz_ HO_10.out))
         (case aS => exact (below_size (bs3_ GE223.out GE228.out GE233.out)))
         (case aL => have := LMc28.out; omega)
         intro v252 w39 ho hb hg hat
         rw [← Ny251.out] at ho
         have n0_ := Aside0.mk (Kd.V_afterv (ok := (fun k_ => some k_ ≠ (.slice Ao19 t230.length co19 : Value).ownBlock ∧ some k_ ≠ (v242 : Value).ownBlock ∧ some k_ ≠ (v245 : Value).ownBlock ∧ some k_ ≠ (.slice Ao40 y248.length co40 : Value).ownBlock ∧ k_ ≠ gb223 ∧ k_ ≠ gb228 ∧ k_ ≠ gb233)) (by (with_reducible repeat (first | apply Kd.V_alloc | apply Kd.V_drewN | apply Kd.V_drew)); exact Kd.V_mono HO_229001.out (fun _ hk => ⟨⟨hk.2.2.2.2.1, ⟨hk.1, ⟨hk.2.1, ⟨hk.2.2.1, ⟨hk.2.2.2.2.2.1, ⟨hk.2.2.2.2.2.2.1, hk.2.2.2.2.2.2.2⟩⟩⟩⟩⟩⟩, hk.2.2.2.1⟩)) hg hat)
         have n1_ := Aside0.mk (Kd.R_over' (rz_ HO_234001.out) (Kd.R_typed (rz_ HO_10.out)) (by decide) hg)
         have n2_ := Aside0.mk (blk_grown (g := gb223) (o := .cells #[.string a0_0, .slice A0_1 l0_1.length c0_1] 24 (0, 0)) (kz_ BK223.out) hg (Kd.R_ne HO_10.out BK223.out (by decide)))
         have n3_ := Aside0.mk (blk_grown (g := gb228) (o := .cells #[.string t224, .slice Ao13 t225.length co13] 24 (0, 0)) (kz_ BK228.out) hg (Kd.R_ne HO_10.out BK228.out (by decide)))
         have n4_ := Aside0.mk (blk_grown (g := gb233) (o := .cells #[.string t229, .slice Ao19 t230.length co19] 30 (0, 0)) (kz_ BK233.out) hg (Kd.R_ne HO_10.out BK233.out (by decide)))
         have n5_ := Aside0.mk (Kd.R_over' (rz_ HO243.out) (Kd.R_typed (rz_ HO_10.out)) (by decide) hg)
         have n6_ := Aside0.mk (Kd.R_over' (rz_ HO246.out) (Kd.R_typed (rz_ HO_10.out)) (by decide) hg)
         have n7_ := Aside0.mk (Kd.R_after (ok := (fun _ => True)) (by (with_reducible repeat (first | apply Kd.R_alloc | apply Kd.R_drewN | apply Kd.R_drew)); exact Kd.R_mono HO250.out (fun _ hk => ⟨trivial, hk⟩)) hg hat)
         have n8_ := Aside0.mk (hb)
         have n9_ := Aside0.mk (ho)
         clear HO_229001
         clear HO_234001
         clear BK223
         clear BK228
         clear BK233
         clear HO243
         clear HO246
         clear HO250
         clear HB
         clear HO_10
         have HO_229001 := n0_
         have HO_234001 := n1_
         have BK223 := n2_
         have BK228 := n3_
         have BK233 := n4_
         have HO243 := n5_
         have HO246 := n6_
         have HO250 := n7_
         have HB := n8_
         have HO253 := n9_
         clear n0_ n1_ n2_ n3_ n4_ n5_ n6_ n7_ n8_ n9_
         clear ho hb hg hat
         refine hK.out _ _ ⟨((HB.out.cell (World.block_lt_of_cell? w _ hw240_0)).trans hw240_0), ((HB.out.cell (World.block_lt_of_cell? w _ hw240_1)).trans hw240_1), ((HB.out.cell (World.block_lt_of_cell? w _ hw240_2)).trans hw240_2), ((HB.out.cell (World.block_lt_of_cell? w _ hw240_3)).trans hw240_3), ((HB.out.cell (World.block_lt_of_cell? w _ hw247_0)).trans hw247_0), ((HB.out.cell (World.block_lt_of_cell? w _ hw247_1)).trans hw247_1), ((HB.out.cell (World.block_lt_of_cell? w _ hw247_2)).trans hw247_2), ((HB.out.cell (World.block_lt_of_cell? w _ hw247_3)).trans hw247_3)⟩ (fun hHeld => ?_)
         clear hK K
         refine norm_ (a' := ?_) ?_ ?_
         rotate_left
         · show Act.put _ (some 47) _ = _
           simp only [Act.put, List.setIfInBounds_toArray, List.set_cons_zero, List.set_cons_succ, i64_w, i32_w]
           rfl
         refine pure_ (i := 14) (N := some 9) (v := ?_) (a' := ?_) #[true, true, true, true, true, true, true, true, true, true, true, true, true, true, true, false] rfl rfl (any_of HT_.out (by kernel_rfl)) (fun _ _ _ h => h) (Or.inl ⟨by rfl, ?_⟩) ?_ ?_
         rotate_left
         · intro w'
           go_simp
           with_reducible rfl
         rotate_left
         · simp only [Act.put, List.setIfInBounds_toArray, List.set_cons_zero, List.set_cons_succ, i64_w, i32_w]
           rfl
         refine pure_ (i := 15) (N := some 10) (v := ?_) (a' := ?_) #[true, true, true, true, true, true, true, true, true, true, true, true, true, true, true, true] rfl rfl (any_of HT_.out (by kernel_rfl)) (fun _ _ _ h => h) (Or.inl ⟨by rfl, ?_⟩) ?_ ?_
         rotate_left
         · intro w'
           go_simp
           with_reducible rfl
         rotate_left
         · simp only [Act.put, List.setIfInBounds_toArray, List.set_cons_zero, List.set_cons_succ, i64_w, i32_w]
           rfl
         refine done_ (done_of HT_.out (by kernel_rfl)) ?_
         try go_wp2
         go_roundg k1
         case measure => have := HK1.out; omega
         case rel => exact ⟨(y244), (y251), (wrap64 (x11_1 + 1)), ez_, H', ⟨by have := HK1.out; omega⟩, ⟨by (with_reducible repeat (first | apply Kd.R_alloc | apply Kd.R_drewN | apply Kd.R_drew)); exact Kd.R_mono HO246.out (fun _ hk => trivial)⟩, ⟨by (with_reducible repeat (first | apply Kd.R_alloc | apply Kd.R_drewN | apply Kd.R_drew)); exact Kd.R_mono HO253.out (fun _ hk => trivial)⟩, ⟨by (with_reducible repeat (first | apply Kd.V_alloc | apply Kd.V_drewN | apply Kd.V_drew)); exact Kd.V_mono HO_229001.out (fun _ hk => ⟨hk.1.2.2.1, ⟨hk.2, ⟨hk.1.1, ⟨hk.1.2.2.2.2.1, ⟨hk.1.2.2.2.2.2.1, hk.1.2.2.2.2.2.2⟩⟩⟩⟩⟩)⟩, ⟨rz_ HO_234001.out⟩, ⟨kz_ BK223.out⟩, ⟨kz_ BK228.out⟩, ⟨kz_ BK233.out⟩, ⟨bs3_ GE223.out GE228.out GE233.out⟩⟩
        · rw [if_neg c28] at H
          exact absurd H (by simp)
       · rw [if_neg c27] at H
         exact absurd H (by simp)
      · rw [if_neg c26] at H
        exact absurd H (by simp)
     · rw [if_neg c25] at H
       have c25b0 : decide (x11_1 < 30) = false := decide_eq_false c25
       clear c25
       have H' := Aside0.mk H
       clear H
       go_wp2
       go_meet
       case rel => exact ⟨_, (x9_1), (x10_1), H', ⟨by have := HK1.out; first | omega | exact Nat.le_refl _⟩, ⟨rz_ HO_9.out⟩, ⟨rz_ HO_10.out⟩, ⟨by (with_reducible repeat (first | apply Kd.V_alloc | apply Kd.V_drewN | apply Kd.V_drew)); exact HO_229001.out⟩, ⟨rz_ HO_234001.out⟩, ⟨kz_ BK223.out⟩, ⟨kz_ BK228.out⟩, ⟨kz_ BK233.out⟩, ⟨bs3_ GE223.out GE228.out GE233.out⟩⟩
    · rw [if_neg c24] at H
      have c24b0 : decide (x11_1 < (l1.length : Int)) = false := decide_eq_false c24
      clear c24
      (first | rw [c24b0] | (simp only [i64_w, i32_w]; rw [c24b0]) | skip)
      have H' := Aside0.mk H
      clear H
      go_wp2
      go_meet
      case rel => exact ⟨_, (x9_1), (x10_1), H', ⟨by have := HK1.out; first | omega | exact Nat.le_refl _⟩, ⟨rz_ HO_9.out⟩, ⟨rz_ HO_10.out⟩, ⟨by (with_reducible repeat (first | apply Kd.V_alloc | apply Kd.V_drewN | apply Kd.V_drew)); exact HO_229001.out⟩, ⟨rz_ HO_234001.out⟩, ⟨kz_ BK223.out⟩, ⟨kz_ BK228.out⟩, ⟨kz_ BK233.out⟩, ⟨bs3_ GE223.out GE228.out GE233.out⟩⟩
 case rest =>
  clear HC6
  try clear c2
  try clear p2
  try clear q2
  try clear hx2
  try clear c4
  try clear p6
  try clear c24
  try clear c24b0
  try clear p24
  try clear q24
  try clear hx24
  try clear c25
  try clear c25b0
  try clear c26
  try clear c27
  try clear c28
  try clear hx240_0
  try clear hx240_1
  try clear hx240_2
  try clear hx240_3
  try clear hx247_0
  try clear hx247_1
  try clear hx247_2
  try clear hx247_3
  try clear p240
  try clear p247
  try clear q240
  try clear q247
  obtain ⟨kq, x9_5, x10_5, HA, HJ5, HO_9, HO_10, HO_229001, HO_234001, BK223, BK228, BK233, HB⟩ := hcut
  cases kq with
  | zero => exact absurd HA.out (by simp [pollardlaw13_RefsApply.j1])
  | succ kj5 =>
   have H := HA.out
   clear HA
   simp only [pollardlaw13_RefsApply.j1] at H
   obtain ⟨y254, hy254⟩ : ∃ y_ : List (S37), y_ = (([] : List (S37))) := ⟨_, rfl⟩
   replace H : (pollardlaw13_RefsApply.l1 kj5 l2 x9_5 x10_5 0 t224 t225 t229 t230 y254) = some r := by first | (rw [hy254]; with_reducible exact H) | (have H2_ := (Option.bind_some _ _).symm.trans H; rw [hy254]; with_reducible exact H2_) | (have H2_ := (Option.bind_some _ _).symm.trans H; with_reducible exact H2_) | with_reducible exact H | (rw [hy254]; exact H) | exact H
   have Ny254 := Aside0.mk hy254
   clear hy254
   have HC41 := Aside0.mk H
   clear H
   go_upto_block 2 with (first | ((with_reducible refine gate_dst (N := 48) rfl ?_); refine Kd.R_lit k37 _ 37 ?hg (N := 48) ?hd (xs := ([] : List (S37))) (inner := []) (ok := fun _ => True) (okp := fun _ => True) ?hr ?hp (fun _ hk => hk) trivial (Below.refl _ _) (Nat.le_refl _) (by simp) ?_; (case hd => rfl); (case hg => rfl); (case hr => first | (go_simp; done) | (go_simp; rfl)); (case hp => exact (Reps.none _ _)); intro v255 w42 ho43 hb hg_ hnew_; clear hg_ hnew_; (first | rw [← Ny254.out] at ho43 | (simp only [Int.reduceToNat] at ho43; rw [← Ny254.out] at ho43)); have n0_ := Aside0.mk (Kd.R_below (rz_ HO_9.out) hb); have n1_ := Aside0.mk (Kd.R_below (rz_ HO_10.out) hb); have n2_ := Aside0.mk (Kd.V_elder' (by (with_reducible repeat (first | apply Kd.V_alloc | apply Kd.V_drewN | apply Kd.V_drew)); exact HO_229001.out) (Kd.R_base ho43) hb); have n3_ := Aside0.mk (Kd.R_below (rz_ HO_234001.out) hb); have n4_ := Aside0.mk (Kd.R_lower ho43 (below_size (bs3_ GE223.out GE228.out GE233.out))); have n5_ := Aside0.mk (blk_below (g := gb223) (o := .cells #[.string a0_0, .slice A0_1 l0_1.length c0_1] 24 (0, 0)) (kz_ BK223.out) hb); have n6_ := Aside0.mk (blk_below (g := gb228) (o := .cells #[.string t224, .slice Ao13 t225.length co13] 24 (0, 0)) (kz_ BK228.out) hb); have n7_ := Aside0.mk (blk_below (g := gb233) (o := .cells #[.string t229, .slice Ao19 t230.length co19] 30 (0, 0)) (kz_ BK233.out) hb); have n8_ := Aside0.mk (below_step (bs3_ GE223.out GE228.out GE233.out) hb); clear HO_9; clear HO_10; clear HO_229001; clear HO_234001; clear BK223; clear BK228; clear BK233; clear HB; have HO_9 := n0_; have HO_10 := n1_; have HO_229001 := n2_; have HO_234001 := n3_; have HO256 := n4_; have BK223 := n5_; have BK228 := n6_; have BK233 := n7_; have HB := n8_; clear n0_ n1_ n2_ n3_ n4_ n5_ n6_ n7_ n8_; clear hb ho43) | ((with_reducible refine gate_dst (N := 12) rfl ?_); refine box_event ?hg (N := 12) ?hd (cs := #[.slice none 0 0]) (t := 36) ?hr ?_; (case hd => rfl); (case hg => rfl); (case hr => first | (go_simp; done) | (go_simp; rfl)); intro gb257 hg w44 hbox hb; have n0_ := Aside0.mk (Kd.R_below (rz_ HO_9.out) hb); have n1_ := Aside0.mk (Kd.R_below (rz_ HO_10.out) hb); have n2_ := Aside0.mk (Kd.V_below (Kd.V_elderB (by (with_reducible repeat (first | apply Kd.V_alloc | apply Kd.V_drewN | apply Kd.V_drew)); exact HO_229001.out) gb257 (Nat.le_of_eq hg.symm)) hb); have n3_ := Aside0.mk (Kd.R_below (rz_ HO_234001.out) hb); have n4_ := Aside0.mk (Kd.R_below (rz_ HO256.out) hb); have n5_ := Aside0.mk (blk_below (g := gb223) (o := .cells #[.string a0_0, .slice A0_1 l0_1.length c0_1] 24 (0, 0)) (kz_ BK223.out) hb); have n6_ := Aside0.mk (blk_below (g := gb228) (o := .cells #[.string t224, .slice Ao13 t225.length co13] 24 (0, 0)) (kz_ BK228.out) hb); have n7_ := Aside0.mk (blk_below (g := gb233) (o := .cells #[.string t229, .slice Ao19 t230.length co19] 30 (0, 0)) (kz_ BK233.out) hb); have n8_ := Aside0.mk (below_step (bs3_ GE223.out GE228.out GE233.out) hb); have n9_ := Aside0.mk (hbox); have n10_ := Aside0.mk ((by rw [hg]; exact (below_size (bs3_ GE223.out GE228.out GE233.out)) : w.heap.size ≤ gb257)); have n11_ := Aside0.mk ((by rw [hg]; exact (below_size (bs3_ GE223.out GE228.out GE233.out)) : w.heap.size ≤ gb257)); have n12_ := Aside0.mk ((by rw [hg]; exact Nat.ne_of_lt (blk_lt (g := gb223) (o := .cells #[.string a0_0, .slice A0_1 l0_1.length c0_1] 24 (0, 0)) (kz_ BK223.out)) : gb223 ≠ gb257)); have n13_ := Aside0.mk ((by rw [hg]; exact Nat.ne_of_gt (blk_lt (g := gb223) (o := .cells #[.string a0_0, .slice A0_1 l0_1.length c0_1] 24 (0, 0)) (kz_ BK223.out)) : gb257 ≠ gb223)); have n14_ := Aside0.mk ((by rw [hg]; exact Nat.ne_of_lt (blk_lt (g := gb228) (o := .cells #[.string t224, .slice Ao13 t225.length co13] 24 (0, 0)) (kz_ BK228.out)) : gb228 ≠ gb257)); have n15_ := Aside0.mk ((by rw [hg]; exact Nat.ne_of_gt (blk_lt (g := gb228) (o := .cells #[.string t224, .slice Ao13 t225.length co13] 24 (0, 0)) (kz_ BK228.out)) : gb257 ≠ gb228)); have n16_ := Aside0.mk ((by rw [hg]; exact Nat.ne_of_lt (blk_lt (g := gb233) (o := .cells #[.string t229, .slice Ao19 t230.length co19] 30 (0, 0)) (kz_ BK233.out)) : gb233 ≠ gb257)); have n17_ := Aside0.mk ((by rw [hg]; exact Nat.ne_of_gt (blk_lt (g := gb233) (o := .cells #[.string t229, .slice Ao19 t230.length co19] 30 (0, 0)) (kz_ BK233.out)) : gb257 ≠ gb233)); clear HO_9; clear HO_10; clear HO_229001; clear HO_234001; clear HO256; clear BK223; clear BK228; clear BK233; clear HB; have HO_9 := n0_; have HO_10 := n1_; have HO_229001 := n2_; have HO_234001 := n3_; have HO256 := n4_; have BK223 := n5_; have BK228 := n6_; have BK233 := n7_; have HB := n8_; have BK257 := n9_; have GW257 := n10_; have GE257 := n11_; have NB223_257 := n12_; have NB257_223 := n13_; have NB228_257 := n14_; have NB257_228 := n15_; have NB233_257 := n16_; have NB257_233 := n17_; clear n0_ n1_ n2_ n3_ n4_ n5_ n6_ n7_ n8_ n9_ n10_ n11_ n12_ n13_ n14_ n15_ n16_ n17_; clear hb hbox hg; obtain ⟨Ao45, co45, eo45⟩ := Kd.R_slice HO256.out; subst eo45; have hnb46 := NB257_223.out; have hnc46 := NB223_257.out; have hnb47 := NB257_228.out; have hnc47 := NB228_257.out; have hnb48 := NB257_233.out; have hnc48 := NB233_257.out; have hcz49_0 : w44.cell? ⟨gb257, 0, none⟩ = some (.slice none 0 0) := (blk_cell BK257.out 0).trans rfl; have hfz49_0 := blk_frozen BK257.out 0))
   (try simp only [Act.put, List.setIfInBounds_toArray, List.set_cons_zero, List.set_cons_succ])
   go_cut [] (fun wc => ∃ (kq : Nat) (x258000_40 : List (S37)) (u258000 : Value), Aside0 (pollardlaw13_RefsApply.j3 kq x9_5 x10_5 t224 t225 t229 t230 x258000_40 = some r) ∧ Aside0 (kq ≤ kj5) ∧ Aside0 (Kd.R k34 34 wc w.heap.size (fun _ => True) u9 x9_5) ∧ Aside0 (Kd.R k35 35 wc w.heap.size (fun _ => True) u10 x10_5) ∧ Aside0 (Kd.V k50 50 wc w.heap.size (fun k_ => some k_ ≠ (u9 : Value).ownBlock ∧ some k_ ≠ (u10 : Value).ownBlock ∧ some k_ ≠ ((.slice Ao19 t230.length co19) : Value).ownBlock ∧ some k_ ≠ (u258000 : Value).ownBlock ∧ k_ ≠ gb223 ∧ k_ ≠ gb228 ∧ k_ ≠ gb233 ∧ k_ ≠ gb257) (.slice Ao13 t225.length co13) t225) ∧ Aside0 (Kd.R k61 61 wc w.heap.size (fun _ => True) (.slice Ao19 t230.length co19) t230) ∧ Aside0 (Kd.R k37 37 wc w.heap.size (fun _ => True) u258000 x258000_40) ∧ Aside0 (wc.heap[gb223]? = some (.cells #[.string a0_0, (.slice A0_1 l0_1.length c0_1)] 24 (0, 0))) ∧ Aside0 (wc.heap[gb228]? = some (.cells #[.string t224, (.slice Ao13 t225.length co13)] 24 (0, 0))) ∧ Aside0 (wc.heap[gb233]? = some (.cells #[.string t229, (.slice Ao19 t230.length co19)] 30 (0, 0))) ∧ Aside0 (wc.heap[gb257]? = some (.cells #[u258000] 36 (0, 0))) ∧ Aside0 (Below w.heap.size w wc))
   case first =>
    have H := HC41.out
    clear HC41
    have H' := Aside0.mk H
    clear H
    go_wp2
    go_loopg [13] kj5 (fun kq v13 w' => ∃ (x13_2 : Int) (x258000_2 : List (S37)) (u258000 : Value), v13 = .int .i64 x13_2 ∧ Aside0 (pollardlaw13_RefsApply.l1 kq l2 x9_5 x10_5 x13_2 t224 t225 t229 t230 x258000_2 = some r) ∧ Aside0 (kq ≤ kj5) ∧ Aside0 (Kd.R k34 34 w' w.heap.size (fun _ => True) u9 x9_5) ∧ Aside0 (Kd.R k35 35 w' w.heap.size (fun _ => True) u10 x10_5) ∧ Aside0 (Kd.V k50 50 w' w.heap.size (fun k_ => some k_ ≠ (u9 : Value).ownBlock ∧ some k_ ≠ (u10 : Value).ownBlock ∧ some k_ ≠ ((.slice Ao19 t230.length co19) : Value).ownBlock ∧ some k_ ≠ (u258000 : Value).ownBlock ∧ k_ ≠ gb223 ∧ k_ ≠ gb228 ∧ k_ ≠ gb233 ∧ k_ ≠ gb257) (.slice Ao13 t225.length co13) t225) ∧ Aside0 (Kd.R k61 61 w' w.heap.size (fun _ => True) (.slice Ao19 t230.length co19) t230) ∧ Aside0 (Kd.R k37 37 w' w.heap.size (fun _ => True) u258000 x258000_2) ∧ Aside0 (w'.heap[gb223]? = some (.cells #[.string a0_0, (.slice A0_1 l0_1.length c0_1)] 24 (0, 0))) ∧ Aside0 (w'.heap[gb228]? = some (.cells #[.string t224, (.slice Ao13 t225.length co13)] 24 (0, 0))) ∧ Aside0 (w'.heap[gb233]? = some (.cells #[.string t229, (.slice Ao19 t230.length co19)] 30 (0, 0))) ∧ Aside0 (w'.heap[gb257]? = some (.cells #[u258000] 36 (0, 0))) ∧ Aside0 (Below w.heap.size w w'))
    case atStart => exact ⟨(0), (y254), (.slice Ao45 y254.length co45), ez_, H', ⟨Nat.le_refl _⟩, ⟨by (with_reducible repeat (first | apply Kd.R_alloc | apply Kd.R_drewN | apply Kd.R_drew)); exact Kd.R_mono (Kd.R_far (p := ⟨gb257, 0, none⟩) (Kd.R_types HO_9.out BK257.out (by decide)) (fun _ hk => hk.2) (.slice Ao45 y254.length co45)) (fun _ hk => trivial)⟩, ⟨by (with_reducible repeat (first | apply Kd.R_alloc | apply Kd.R_drewN | apply Kd.R_drew)); exact Kd.R_mono (Kd.R_far (p := ⟨gb257, 0, none⟩) (Kd.R_types HO_10.out BK257.out (by decide)) (fun _ hk => hk.2) (.slice Ao45 y254.length co45)) (fun _ hk => trivial)⟩, ⟨by (with_reducible repeat (first | apply Kd.V_alloc | apply Kd.V_drewN | apply Kd.V_drew)); exact Kd.V_mono (Kd.V_far (p := ⟨gb257, 0, none⟩) (Kd.V_mono HO_229001.out (fun k_ hk => (⟨hk, hk.2⟩ : _ ∧ k_ ≠ gb257))) (fun _ hk => hk.2) (.slice Ao45 y254.length co45)) (fun _ hk => ⟨hk.1.1.1.1, ⟨hk.1.1.1.2.1, ⟨hk.1.1.1.2.2.1, ⟨hk.1.1.2, ⟨hk.1.1.1.2.2.2.1, ⟨hk.1.1.1.2.2.2.2.1, ⟨hk.1.1.1.2.2.2.2.2, hk.1.2⟩⟩⟩⟩⟩⟩⟩)⟩, ⟨by (with_reducible repeat (first | apply Kd.R_alloc | apply Kd.R_drewN | apply Kd.R_drew)); exact Kd.R_mono (Kd.R_far (p := ⟨gb257, 0, none⟩) (Kd.R_types HO_234001.out BK257.out (by decide)) (fun _ hk => hk.2) (.slice Ao45 y254.length co45)) (fun _ hk => trivial)⟩, ⟨by (with_reducible repeat (first | apply Kd.R_alloc | apply Kd.R_drewN | apply Kd.R_drew)); exact Kd.R_mono (Kd.R_far (p := ⟨gb257, 0, none⟩) (Kd.R_types HO256.out BK257.out (by decide)) (fun _ hk => hk.2) (.slice Ao45 y254.length co45)) (fun _ hk => trivial)⟩, ⟨by (with_reducible repeat (first | refine blk_drewN ?_ _ | refine blk_drew ?_ | refine blk_alloc ?_ _)); refine blk_far ?_ NB223_257.out _; (with_reducible repeat (first | refine blk_drewN ?_ _ | refine blk_drew ?_ | refine blk_alloc ?_ _)); exact BK223.out⟩, ⟨by (with_reducible repeat (first | refine blk_drewN ?_ _ | refine blk_drew ?_ | refine blk_alloc ?_ _)); refine blk_far ?_ NB228_257.out _; (with_reducible repeat (first | refine blk_drewN ?_ _ | refine blk_drew ?_ | refine blk_alloc ?_ _)); exact BK228.out⟩, ⟨by (with_reducible repeat (first | refine blk_drewN ?_ _ | refine blk_drew ?_ | refine blk_alloc ?_ _)); refine blk_far ?_ NB233_257.out _; (with_reducible repeat (first | refine blk_drewN ?_ _ | refine blk_drew ?_ | refine blk_alloc ?_ _)); exact BK233.out⟩, ⟨by (with_reducible repeat (first | refine blk_drewN ?_ _ | refine blk_drew ?_ | refine blk_alloc ?_ _)); refine blk_put (cs := #[.slice none 0 0]) ?_ 0 _ rfl; (with_reducible repeat (first | refine blk_drewN ?_ _ | refine blk_drew ?_ | refine blk_alloc ?_ _)); exact BK257.out⟩, ⟨by repeat (first | (with_reducible first | exact HB.out | apply below_alloc | apply pw_below_drewN | apply below_drew1 | refine below_set ?_ GE223.out | refine below_set ?_ GE228.out | refine below_set ?_ GE233.out | refine below_set ?_ GE257.out) | exact HB.out)⟩⟩
    case round =>
     clear H'
     try clear c2
     try clear p2
     try clear q2
     try clear hx2
     try clear c4
     try clear p6
     try clear c24
     try clear c24b0
     try clear p24
     try clear q24
     try clear hx24
     try clear c25
     try clear c25b0
     try clear c26
     try clear c27
     try clear c28
     try clear c46
     try clear c47
     try clear c48
     try clear hcz49_0
     try clear hfz49_0
     try clear hx240_0
     try clear hx240_1
     try clear hx240_2
     try clear hx240_3
     try clear hx247_0
     try clear hx247_1
     try clear hx247_2
     try clear hx247_3
     try clear p2
     try clear p24
     try clear p240
     try clear p247
     try clear p6
     try clear q2
     try clear q24
     try clear q240
     try clear q247
     obtain ⟨x13_2, x258000_2, u258000, rfl, HA, HK2, HO_9, HO_10, HO_229001, HO_234001, HO_258000, BK223, BK228, BK233, BK257, HB⟩ := hrel
     cases gk with
     | zero => exact absurd HA.out (by simp [pollardlaw13_RefsApply.l1])
     | succ k2 =>
      have H := HA.out
      clear HA
      simp only [pollardlaw13_RefsApply.l1] at H
      by_cases c50 : x13_2 < (l2.length : Int)
      ·
       rw [if_pos c50] at H
       have c50b0 : decide (x13_2 < (l2.length : Int)) = true := decide_eq_true c50
       clear c50
       (first | rw [c50b0] | (simp only [i64_w, i32_w]; rw [c50b0]) | skip)
       by_cases c51 : x13_2 < 30
       ·
        rw [if_pos c51] at H
        have c51b0 : decide (x13_2 < 30) = true := decide_eq_true c51
        clear c51
        by_cases c52 : 0 ≤ x13_2
        ·
         rw [if_pos c52] at H
         have c52b0 : decide (0 ≤ x13_2) = true := decide_eq_true c52
         clear c52
         obtain ⟨y259, hy259⟩ : ∃ y_ : List (S37), y_ = (([(⟨(rd_T37 l2 x13_2).f0, (rd_T37 l2 x13_2).f1⟩ : S37)] : List (S37))) := ⟨_, rfl⟩
         replace H : (if x258000_2.length + y259.length < 4398046511104 then (pollardlaw13_RefsApply.l1 k2 l2 x9_5 x10_5 (wrap64 (x13_2 + 1)) t224 t225 t229 t230 (x258000_2 ++ y259)) else (none)) = some r := by first | (rw [hy259]; with_reducible exact H) | (have H2_ := (Option.bind_some _ _).symm.trans H; rw [hy259]; with_reducible exact H2_) | (have H2_ := (Option.bind_some _ _).symm.trans H; with_reducible exact H2_) | with_reducible exact H | (rw [hy259]; exact H) | exact H
         have Ny259 := Aside0.mk hy259
         clear hy259
         by_cases c53 : x258000_2.length + y259.length < 4398046511104
         ·
          rw [if_pos c53] at H
          have LMc53 := Aside0.mk c53
          clear c53
          obtain ⟨y262, hy262⟩ : ∃ y_ : List (S37), y_ = (x258000_2 ++ y259) := ⟨_, rfl⟩
          replace H : (pollardlaw13_RefsApply.l1 k2 l2 x9_5 x10_5 (wrap64 (x13_2 + 1)) t224 t225 t229 t230 y262) = some r := by first | (rw [hy262]; with_reducible exact H) | (have H2_ := (Option.bind_some _ _).symm.trans H; rw [hy262]; with_reducible exact H2_) | (have H2_ := (Option.bind_some _ _).symm.trans H; with_reducible exact H2_) | with_reducible exact H | (rw [hy262]; exact H) | exact H
          have Ny262 := Aside0.mk hy262
          clear hy262
          have H' := Aside0.mk H
          clear H
          try go_wp2
          have n0_ := Aside0.mk (Kd.R_drew HO_9.out)
          have n1_ := Aside0.mk (Kd.R_drew HO_10.out)
          have n2_ := Aside0.mk (Kd.V_drew HO_229001.out)
          have n3_ := Aside0.mk (Kd.R_drew HO_234001.out)
          have n4_ := Aside0.mk (Kd.R_drew HO_258000.out)
          have n5_ := Aside0.mk (blk_drew BK223.out)
          have n6_ := Aside0.mk (blk_drew BK228.out)
          have n7_ := Aside0.mk (blk_drew BK233.out)
          have n8_ := Aside0.mk (blk_drew BK257.out)
          have n9_ := Aside0.mk (below_drew1 HB.out)
          clear HO_9
          clear HO_10
          clear HO_229001
          clear HO_234001
          clear HO_258000
          clear BK223
          clear BK228
          clear BK233
          clear BK257
          clear HB
          have HO_9 := n0_
          have HO_10 := n1_
          have HO_229001 := n2_
          have HO_234001 := n3_
          have HO_258000 := n4_
          have BK223 := n5_
          have BK228 := n6_
          have BK233 := n7_
          have BK257 := n8_
          have HB := n9_
          clear n0_ n1_ n2_ n3_ n4_ n5_ n6_ n7_ n8_ n9_
          have p258 : 0 ≤ (x13_2 : Int) := of_decide_eq_true az_
          have q258 : x13_2 < (l2.length : Int) := of_decide_eq_true az_
          obtain ⟨ad258, e258, hx258_0, hx258_1⟩ := at_T37 HR2.out x13_2 p258 q258
          have hw258_1 := hx258_1
          have hw258_0 := hx258_0
          cases e258
          replace hx258_0 := (HB.out.cell (World.block_lt_of_cell? w _ hx258_0)).trans hx258_0
          replace hx258_1 := (HB.out.cell (World.block_lt_of_cell? w _ hx258_1)).trans hx258_1
          replace p258 := eq_true p258
          replace q258 := eq_true q258
          refine start_ (n := 8) (S := fun w' => w'.cell? ⟨gb257, 0, none⟩ = some (u258000) ∧ w'.cell? (ad258.add ((x13_2).toNat * 2)) = some (.string ((rd_T37 l2 x13_2).f0)) ∧ w'.cell? ⟨(ad258.add ((x13_2).toNat * 2)).block, (ad258.add ((x13_2).toNat * 2)).off + 1, none⟩ = some (.string ((rd_T37 l2 x13_2).f1))) (ds := [7]) #[false, false, false, false, false, false, false, false] (by kernel_rfl) rfl rfl ⟨(blk_cell BK257.out 0).trans rfl, ((HB.out.cell (World.block_lt_of_cell? w _ hw258_0)).trans hw258_0), ((HB.out.cell (World.block_lt_of_cell? w _ hw258_1)).trans hw258_1)⟩ (fun hHeld => ?_); refine with_tabW pollardlaw13_RefsApply.tab12 pollardlaw13_RefsApply.bits12 (fun HT_ HW_ => ?_)
          generalize wr.drew = w54 at HO_9 HO_10 HO_229001 HO_234001 HO_258000 BK223 BK228 BK233 BK257 HB hx258_0 hx258_1 hHeld ⊢
          refine pure_ (i := 1) (N := some 60) (v := ?_) (a' := ?_) #[false, true, false, false, false, false, false, false] rfl rfl (any_of HT_.out (by kernel_rfl)) (fun _ _ _ h => h) (Or.inl ⟨by rfl, ?_⟩) ?_ ?_
          rotate_left
          · intro w'
            go_simp
            with_reducible rfl
          rotate_left
          · simp only [Act.put, List.setIfInBounds_toArray, List.set_cons_zero, List.set_cons_succ, i64_w, i32_w]
            rfl
          refine pure_ (i := 2) (N := some 61) (v := ?_) (a' := ?_) #[false, true, true, false, false, false, false, false] rfl rfl (any_of HT_.out (by kernel_rfl)) (fun _ _ _ h => h) (Or.inl ⟨by rfl, ?_⟩) ?_ ?_
          rotate_left
          · intro w'
            go_simp
            with_reducible rfl
          rotate_left
          · simp only [Act.put, List.setIfInBounds_toArray, List.set_cons_zero, List.set_cons_succ, i64_w, i32_w]
            rfl
          refine pure_ (i := 3) (N := some 62) (v := ?_) (a' := ?_) #[false, true, true, true, false, false, false, false] rfl rfl (any_of HT_.out (by kernel_rfl)) (fun _ _ _ h => h) (Or.inl ⟨by rfl, ?_⟩) ?_ ?_
          rotate_left
          · intro w'
            go_simp
            with_reducible rfl
          rotate_left
          · simp only [Act.put, List.setIfInBounds_toArray, List.set_cons_zero, List.set_cons_succ, i64_w, i32_w]
            rfl
          refine take_ (i := 0) (N := some 59) (v := ?_) (a' := ?_) #[true, true, true, true, false, false, false, false] rfl rfl (take_ofW HT_.out HW_.out (by kernel_rfl)) (fun _ _ _ h => h) (Or.inl ⟨by rfl, ?_⟩) hHeld ?_ ?_
          rotate_left
          · rintro w' ⟨s0, s1, s2⟩
            go_simp
            with_reducible rfl
          rotate_left
          · simp only [Act.put, List.setIfInBounds_toArray, List.set_cons_zero, List.set_cons_succ, i64_w, i32_w]
            rfl
          refine take_ (i := 4) (N := some 63) (v := ?_) (a' := ?_) #[true, true, true, true, true, false, false, false] rfl rfl (take_ofW HT_.out HW_.out (by kernel_rfl)) (fun _ _ _ h => h) (Or.inl ⟨by rfl, ?_⟩) hHeld ?_ ?_
          rotate_left
          · rintro w' ⟨s0, s1, s2⟩
            go_simp
            with_reducible rfl
          rotate_left
          · simp only [Act.put, List.setIfInBounds_toArray, List.set_cons_zero, List.set_cons_succ, i64_w, i32_w]
            rfl
          refine one_ (i := 5) (N := some 64) #[true, true, true, true, true, true, false, false] rfl rfl (one_of HT_.out (by kernel_rfl)) (by decide) (fun K hK => ?_)
          refine Kd.R_lit_step k37 _ 37 ?hg (N := 64) ?hd (xs := ([(⟨(rd_T37 l2 x13_2).f0, (rd_T37 l2 x13_2).f1⟩ : S37)] : List (S37))) (inner := [.string ((rd_T37 l2 x13_2).f0), .string ((rd_T37 l2 x13_2).f1)]) (ok := fun _ => True) (okp := fun _ => True) ?hr ?hp (fun _ hk => hk) trivial (Below.refl _ _) (Nat.le_refl _) (by simp) ?_; (case hd => rfl); (case hg => rfl); (case hr => first | (go_simp; done) | (go_simp; rfl)); (case hp => exact (Reps.c2 (show Kd.M k37 _ _ _ (⟨(rd_T37 l2 x13_2).f0, (rd_T37 l2 x13_2).f1⟩ : S37) [.string ((rd_T37 l2 x13_2).f0), .string ((rd_T37 l2 x13_2).f1)] from (k37_mkM _ _ _ (⟨(rd_T37 l2 x13_2).f0, (rd_T37 l2 x13_2).f1⟩ : S37) )) (Reps.none _ _)))
          intro v260 w55 ho56 hb hg_ hnew_
          clear hg_ hnew_
          (first | rw [← Ny259.out] at ho56 | (simp only [Int.reduceToNat] at ho56; rw [← Ny259.out] at ho56))
          have n0_ := Aside0.mk (Kd.R_below (rz_ HO_9.out) hb)
          have n1_ := Aside0.mk (Kd.R_below (rz_ HO_10.out) hb)
          have n2_ := Aside0.mk (Kd.V_elder' (by (with_reducible repeat (first | apply Kd.V_alloc | apply Kd.V_drewN | apply Kd.V_drew)); exact HO_229001.out) (Kd.R_base ho56) hb)
          have n3_ := Aside0.mk (Kd.R_below (rz_ HO_234001.out) hb)
          have n4_ := Aside0.mk (Kd.R_elder' (rz_ HO_258000.out) (Kd.R_base ho56) hb)
          have n5_ := Aside0.mk (Kd.R_lower (Kd.R_new' ho56 (Kd.R_lt (rz_ HO_258000.out))) (below_size (by repeat (first | (with_reducible first | exact HB.out | apply below_alloc | apply pw_below_drewN | apply below_drew1 | refine below_set ?_ GE223.out | refine below_set ?_ GE228.out | refine below_set ?_ GE233.out | refine below_set ?_ GE257.out) | exact HB.out))))
          have n6_ := Aside0.mk (blk_below (g := gb223) (o := .cells #[.string a0_0, .slice A0_1 l0_1.length c0_1] 24 (0, 0)) (kz_ BK223.out) hb)
          have n7_ := Aside0.mk (blk_below (g := gb228) (o := .cells #[.string t224, .slice Ao13 t225.length co13] 24 (0, 0)) (kz_ BK228.out) hb)
          have n8_ := Aside0.mk (blk_below (g := gb233) (o := .cells #[.string t229, .slice Ao19 t230.length co19] 30 (0, 0)) (kz_ BK233.out) hb)
          have n9_ := Aside0.mk (blk_below (g := gb257) (o := .cells #[u258000] 36 (0, 0)) (kz_ BK257.out) hb)
          have n10_ := Aside0.mk (below_step (by repeat (first | (with_reducible first | exact HB.out | apply below_alloc | apply pw_below_drewN | apply below_drew1 | refine below_set ?_ GE223.out | refine below_set ?_ GE228.out | refine below_set ?_ GE233.out | refine below_set ?_ GE257.out) | exact HB.out)) hb)
          clear HO_9
          clear HO_10
          clear HO_229001
          clear HO_234001
          clear HO_258000
          clear BK223
          clear BK228
          clear BK233
          clear BK257
          clear HB
          have HO_9 := n0_
          have HO_10 := n1_
          have HO_229001 := n2_
          have HO_234001 := n3_
          have HO_258000 := n4_
          have HO261 := n5_
          have BK223 := n6_
          have BK228 := n7_
          have BK233 := n8_
          have BK257 := n9_
          have HB := n10_
          clear n0_ n1_ n2_ n3_ n4_ n5_ n6_ n7_ n8_ n9_ n10_
          clear hb ho56
          obtain ⟨Ao58, co58, eo58⟩ := Kd.R_slice HO261.out
          (first | subst eo58 | (injection eo58 with f1_ f2_ f3_; have f4_ := f1_.symm; have f5_ := f3_.symm; clear f1_ f2_ f3_; subst f4_; subst f5_))
          refine hK.out _ _ ⟨(blk_cell BK257.out 0).trans rfl, ((HB.out.cell (World.block_lt_of_cell? w _ hw258_0)).trans hw258_0), ((HB.out.cell (World.block_lt_of_cell? w _ hw258_1)).trans hw258_1)⟩ (fun hHeld => ?_)
          clear hK K
          refine norm_ (a' := ?_) ?_ ?_
          rotate_left
          · show Act.put _ (some 64) _ = _
            simp only [Act.put, List.setIfInBounds_toArray, List.set_cons_zero, List.set_cons_succ, i64_w, i32_w]
            rfl
          refine one_ (i := 6) (N := some 65) #[true, true, true, true, true, true, true, false] rfl rfl (one_of HT_.out (by kernel_rfl)) (by decide) (fun K hK => ?_)
          refine Kd.R_append_rows_step k37 (w0 := w) w.heap.size (by rfl) (.tmp 59) (.tmp 64) 36 37 (.agg #[(.string ⟨#[]⟩), (.string ⟨#[]⟩)]) 32 rfl Try.underlying36 info37 rfl (by decide) (by omega) u258000 x258000_2 y259 _ _ _ (fun k_ => some k_ ≠ (.slice Ao58 y259.length co58 : Value).ownBlock) (fun _ => False) rfl rfl ?aO ?aR (fun _ _ h => h) (fun _ h => h.elim) ?aF ?aB ?aS ?aL ?_
          (case aR => repeat (first | exact (Kd.R_reads' HO261.out).2.2 | (with_reducible refine Kd.C_alloc ?_ _) | (with_reducible refine Kd.C_drewN ?_ _) | (with_reducible refine Kd.C_drew ?_)))
          (case aB => exact (by repeat (first | (with_reducible first | exact HB.out | apply below_alloc | apply pw_below_drewN | apply below_drew1 | refine below_set ?_ GE223.out | refine below_set ?_ GE228.out | refine below_set ?_ GE233.out | refine below_set ?_ GE257.out) | exact HB.out)))
          (case aF => exact (fun k_ hk => Kd.fresh' (Kd.R_lt (rz_ HO261.out)) k_ hk))
          (case aO => exact (by (with_reducible repeat (first | apply Kd.R_alloc | apply Kd.R_drewN | apply Kd.R_drew)); exact Kd.R_mono HO_258000.out (fun _ hk => hk.2)))
          (case aS => exact (below_size (by repeat (first | (with_reducible first | exact HB.out | apply below_alloc | apply pw_below_drewN | apply below_drew1 | refine below_set ?_ GE223.out | refine below_set ?_ GE228.out | refine below_set ?_ GE233.out | refine below_set ?_ GE257.out) | exact HB.out))))
          (case aL => have := LMc53.out; omega)
          intro v263 w57 ho hb hg hat
          rw [← Ny262.out] at ho
          have n0_ := Aside0.mk (Kd.R_over' (rz_ HO_9.out) (Kd.R_typed (rz_ HO_258000.out)) (by decide) hg)
          have n1_ := Aside0.mk (Kd.R_over' (rz_ HO_10.out) (Kd.R_typed (rz_ HO_258000.out)) (by decide) hg)
          have n2_ := Aside0.mk (Kd.V_afterv (ok := (fun k_ => some k_ ≠ (u9 : Value).ownBlock ∧ some k_ ≠ (u10 : Value).ownBlock ∧ some k_ ≠ (.slice Ao19 t230.length co19 : Value).ownBlock ∧ some k_ ≠ (.slice Ao58 y259.length co58 : Value).ownBlock ∧ k_ ≠ gb223 ∧ k_ ≠ gb228 ∧ k_ ≠ gb233 ∧ k_ ≠ gb257)) (by (with_reducible repeat (first | apply Kd.V_alloc | apply Kd.V_drewN | apply Kd.V_drew)); exact Kd.V_mono HO_229001.out (fun _ hk => ⟨⟨hk.1.1, ⟨hk.1.2.1, ⟨hk.1.2.2.1, ⟨hk.2, ⟨hk.1.2.2.2.2.1, ⟨hk.1.2.2.2.2.2.1, ⟨hk.1.2.2.2.2.2.2.1, hk.1.2.2.2.2.2.2.2⟩⟩⟩⟩⟩⟩⟩, hk.1.2.2.2.1⟩)) hg hat)
          have n3_ := Aside0.mk (Kd.R_over' (rz_ HO_234001.out) (Kd.R_typed (rz_ HO_258000.out)) (by decide) hg)
          have n4_ := Aside0.mk (blk_grown (g := gb223) (o := .cells #[.string a0_0, .slice A0_1 l0_1.length c0_1] 24 (0, 0)) (kz_ BK223.out) hg (Kd.R_ne HO_258000.out BK223.out (by decide)))
          have n5_ := Aside0.mk (blk_grown (g := gb228) (o := .cells #[.string t224, .slice Ao13 t225.length co13] 24 (0, 0)) (kz_ BK228.out) hg (Kd.R_ne HO_258000.out BK228.out (by decide)))
          have n6_ := Aside0.mk (blk_grown (g := gb233) (o := .cells #[.string t229, .slice Ao19 t230.length co19] 30 (0, 0)) (kz_ BK233.out) hg (Kd.R_ne HO_258000.out BK233.out (by decide)))
          have n7_ := Aside0.mk (blk_grown (g := gb257) (o := .cells #[u258000] 36 (0, 0)) (kz_ BK257.out) hg (Kd.R_ne HO_258000.out BK257.out (by decide)))
          have n8_ := Aside0.mk (Kd.R_after (ok := (fun _ => True)) (rz_ HO261.out) hg hat)
          have n9_ := Aside0.mk (hb)
          have n10_ := Aside0.mk (ho)
          clear HO_9
          clear HO_10
          clear HO_229001
          clear HO_234001
          clear BK223
          clear BK228
          clear BK233
          clear BK257
          clear HO261
          clear HB
          clear HO_258000
          have HO_9 := n0_
          have HO_10 := n1_
          have HO_229001 := n2_
          have HO_234001 := n3_
          have BK223 := n4_
          have BK228 := n5_
          have BK233 := n6_
          have BK257 := n7_
          have HO261 := n8_
          have HB := n9_
          have HO264 := n10_
          clear n0_ n1_ n2_ n3_ n4_ n5_ n6_ n7_ n8_ n9_ n10_
          clear ho hb hg hat
          obtain ⟨Ao59, co59, eo59⟩ := Kd.R_slice HO264.out
          (first | subst eo59 | (injection eo59 with f1_ f2_ f3_; have f4_ := f1_.symm; have f5_ := f3_.symm; clear f1_ f2_ f3_; subst f4_; subst f5_))
          refine hK.out _ _ ⟨(blk_cell BK257.out 0).trans rfl, ((HB.out.cell (World.block_lt_of_cell? w _ hw258_0)).trans hw258_0), ((HB.out.cell (World.block_lt_of_cell? w _ hw258_1)).trans hw258_1)⟩ (fun hHeld => ?_)
          clear hK K
          refine norm_ (a' := ?_) ?_ ?_
          rotate_left
          · show Act.put _ (some 65) _ = _
            simp only [Act.put, List.setIfInBounds_toArray, List.set_cons_zero, List.set_cons_succ, i64_w, i32_w]
            rfl
          refine last_ (i := 7) (N := none) #[true, true, true, true, true, true, true, true] rfl rfl (one_of HT_.out (by kernel_rfl)) (by decide) (fun K hK => ?_)
          have hs60 : w57.cell? ⟨gb257, 0, none⟩ = some (u258000) := (blk_cell BK257.out 0).trans rfl
          have hfs60 := blk_frozen BK257.out 0
          have hns60_0 := NB223_257.out
          have hns60_1 := NB228_257.out
          have hns60_2 := NB233_257.out
          have hms60_0 := NB257_223.out
          have hms60_1 := NB257_228.out
          have hms60_2 := NB257_233.out
          refine skip_ (w1 := ?_) (by rfl) rfl ?_ ?_
          rotate_left
          · go_simp
            rfl
          refine hK.out _ _ ?_
          clear hK K
          refine done_ (done_of HT_.out (by kernel_rfl)) ?_
          try go_wp2
          go_roundg k2
          case measure => have := HJ5.out; have := HK2.out; omega
          case rel => exact ⟨(wrap64 (x13_2 + 1)), (y262), (.slice Ao59 y262.length co59), ez_, H', ⟨by have := HJ5.out; have := HK2.out; omega⟩, ⟨by (with_reducible repeat (first | apply Kd.R_alloc | apply Kd.R_drewN | apply Kd.R_drew)); exact Kd.R_mono (Kd.R_far (p := ⟨gb257, 0, none⟩) (Kd.R_types HO_9.out BK257.out (by decide)) (fun _ hk => hk.2) (.slice Ao59 y262.length co59)) (fun _ hk => trivial)⟩, ⟨by (with_reducible repeat (first | apply Kd.R_alloc | apply Kd.R_drewN | apply Kd.R_drew)); exact Kd.R_mono (Kd.R_far (p := ⟨gb257, 0, none⟩) (Kd.R_types HO_10.out BK257.out (by decide)) (fun _ hk => hk.2) (.slice Ao59 y262.length co59)) (fun _ hk => trivial)⟩, ⟨by (with_reducible repeat (first | apply Kd.V_alloc | apply Kd.V_drewN | apply Kd.V_drew)); exact Kd.V_mono (Kd.V_far (p := ⟨gb257, 0, none⟩) (Kd.V_mono HO_229001.out (fun k_ hk => (⟨hk, hk.1.2.2.2.2.2.2.2⟩ : _ ∧ k_ ≠ gb257))) (fun _ hk => hk.2) (.slice Ao59 y262.length co59)) (fun _ hk => ⟨hk.1.1.1, ⟨hk.1.1.2.1, ⟨hk.1.1.2.2.1, ⟨hk.1.2, ⟨hk.1.1.2.2.2.2.1, ⟨hk.1.1.2.2.2.2.2.1, ⟨hk.1.1.2.2.2.2.2.2.1, hk.1.1.2.2.2.2.2.2.2⟩⟩⟩⟩⟩⟩⟩)⟩, ⟨by (with_reducible repeat (first | apply Kd.R_alloc | apply Kd.R_drewN | apply Kd.R_drew)); exact Kd.R_mono (Kd.R_far (p := ⟨gb257, 0, none⟩) (Kd.R_types HO_234001.out BK257.out (by decide)) (fun _ hk => hk.2) (.slice Ao59 y262.length co59)) (fun _ hk => trivial)⟩, ⟨by (with_reducible repeat (first | apply Kd.R_alloc | apply Kd.R_drewN | apply Kd.R_drew)); exact Kd.R_mono (Kd.R_far (p := ⟨gb257, 0, none⟩) (Kd.R_types HO264.out BK257.out (by decide)) (fun _ hk => hk.2) (.slice Ao59 y262.length co59)) (fun _ hk => trivial)⟩, ⟨by (with_reducible repeat (first | refine blk_drewN ?_ _ | refine blk_drew ?_ | refine blk_alloc ?_ _)); refine blk_far ?_ NB223_257.out _; (with_reducible repeat (first | refine blk_drewN ?_ _ | refine blk_drew ?_ | refine blk_alloc ?_ _)); exact BK223.out⟩, ⟨by (with_reducible repeat (first | refine blk_drewN ?_ _ | refine blk_drew ?_ | refine blk_alloc ?_ _)); refine blk_far ?_ NB228_257.out _; (with_reducible repeat (first | refine blk_drewN ?_ _ | refine blk_drew ?_ | refine blk_alloc ?_ _)); exact BK228.out⟩, ⟨by (with_reducible repeat (first | refine blk_drewN ?_ _ | refine blk_drew ?_ | refine blk_alloc ?_ _)); refine blk_far ?_ NB233_257.out _; (with_reducible repeat (first | refine blk_drewN ?_ _ | refine blk_drew ?_ | refine blk_alloc ?_ _)); exact BK233.out⟩, ⟨by (with_reducible repeat (first | refine blk_drewN ?_ _ | refine blk_drew ?_ | refine blk_alloc ?_ _)); refine blk_put (cs := #[u258000]) ?_ 0 _ rfl; (with_reducible repeat (first | refine blk_drewN ?_ _ | refine blk_drew ?_ | refine blk_alloc ?_ _)); exact BK257.out⟩, ⟨by repeat (first | (with_reducible first | exact HB.out | apply below_alloc | apply pw_below_drewN | apply below_drew1 | refine below_set ?_ GE223.out | refine below_set ?_ GE228.out | refine below_set ?_ GE233.out | refine below_set ?_ GE257.out) | exact HB.out)⟩⟩
         · rw [if_neg c53] at H
           exact absurd H (by simp)
        · rw [if_neg c52] at H
          exact absurd H (by simp)
       · rw [if_neg c51] at H
         have c51b0 : decide (x13_2 < 30) = false := decide_eq_false c51
         clear c51
         have H' := Aside0.mk H
         clear H
         go_wp2
         go_meet
         case rel => exact ⟨_, (x258000_2), (u258000), H', ⟨by have := HJ5.out; have := HK2.out; first | omega | exact Nat.le_refl _⟩, ⟨rz_ HO_9.out⟩, ⟨rz_ HO_10.out⟩, ⟨by (with_reducible repeat (first | apply Kd.V_alloc | apply Kd.V_drewN | apply Kd.V_drew)); exact HO_229001.out⟩, ⟨rz_ HO_234001.out⟩, ⟨rz_ HO_258000.out⟩, ⟨kz_ BK223.out⟩, ⟨kz_ BK228.out⟩, ⟨kz_ BK233.out⟩, ⟨kz_ BK257.out⟩, ⟨by repeat (first | (with_reducible first | exact HB.out | apply below_alloc | apply pw_below_drewN | apply below_drew1 | refine below_set ?_ GE223.out | refine below_set ?_ GE228.out | refine below_set ?_ GE233.out | refine below_set ?_ GE257.out) | exact HB.out)⟩⟩
      · rw [if_neg c50] at H
        have c50b0 : decide (x13_2 < (l2.length : Int)) = false := decide_eq_false c50
        clear c50
        (first | rw [c50b0] | (simp only [i64_w, i32_w]; rw [c50b0]) | skip)
        have H' := Aside0.mk H
        clear H
        go_wp2
        go_meet
        case rel => exact ⟨_, (x258000_2), (u258000), H', ⟨by have := HJ5.out; have := HK2.out; first | omega | exact Nat.le_refl _⟩, ⟨rz_ HO_9.out⟩, ⟨rz_ HO_10.out⟩, ⟨by (with_reducible repeat (first | apply Kd.V_alloc | apply Kd.V_drewN | apply Kd.V_drew)); exact HO_229001.out⟩, ⟨rz_ HO_234001.out⟩, ⟨rz_ HO_258000.out⟩, ⟨kz_ BK223.out⟩, ⟨kz_ BK228.out⟩, ⟨kz_ BK233.out⟩, ⟨kz_ BK257.out⟩, ⟨by repeat (first | (with_reducible first | exact HB.out | apply below_alloc | apply pw_below_drewN | apply below_drew1 | refine below_set ?_ GE223.out | refine below_set ?_ GE228.out | refine below_set ?_ GE233.out | refine below_set ?_ GE257.out) | exact HB.out)⟩⟩
   case rest =>
    clear HC41
    try clear c2
    try clear p2
    try clear q2
    try clear hx2
    try clear c4
    try clear c5
    try clear p6
    try clear c24
    try clear c24b0
    try clear p24
    try clear q24
    try clear hx24
    try clear c25
    try clear c25b0
    try clear p25
    try clear q25
    try clear hx25
    try clear c26
    try clear c27
    try clear c28
    try clear c46
    try clear c47
    try clear c48
    try clear c50
    try clear c50b0
    try clear c51
    try clear c51b0
    try clear c52
    try clear c52b0
    try clear c53
    try clear hcz49_0
    try clear hfz49_0
    try clear hx240_0
    try clear hx240_1
    try clear hx240_2
    try clear hx240_3
    try clear hx247_0
    try clear hx247_1
    try clear hx247_2
    try clear hx247_3
    try clear hx258_0
    try clear hx258_1
    try clear p2
    try clear p24
    try clear p240
    try clear p247
    try clear p258
    try clear p6
    try clear q2
    try clear q24
    try clear q240
    try clear q247
    try clear q258
    obtain ⟨kq, x258000_40, u258000, HA, HJ40, HO_9, HO_10, HO_229001, HO_234001, HO_258000, BK223, BK228, BK233, BK257, HB⟩ := hcut
    cases kq with
    | zero => exact absurd HA.out (by simp [pollardlaw13_RefsApply.j3])
    | succ kj40 =>
     have H := HA.out
     clear HA
     simp only [pollardlaw13_RefsApply.j3] at H
     replace H := Option.bind_eq_some_iff.mp H
     obtain ⟨⟨t265, t266, t269⟩, A610, H⟩ := H
     try dsimp only at H
     have A61 := Aside0.mk A610
     clear A610
     replace H := Option.bind_eq_some_iff.mp H
     obtain ⟨⟨t271, t272, t275⟩, A620, H⟩ := H
     try dsimp only at H
     have A62 := Aside0.mk A620
     clear A620
     replace H := Option.bind_eq_some_iff.mp H
     obtain ⟨t277, A630, H⟩ := H
     try dsimp only at H
     have A63 := Aside0.mk A630
     clear A630
     by_cases c64 : t277 = true
     ·
      subst c64
      have H1 := H
      rw [if_pos rfl] at H1
      clear H
      have H := H1
      clear H1
      by_cases c65 : t269 = t275
      ·
       rw [if_pos c65] at H
       have c65b0 : (t269 == t275) = true := beq_iff_eq.mpr c65
       have c65b1 : (t269 != t275) = false := bne_eq_false_iff_eq.mpr c65
       clear c65
       replace H := Option.bind_eq_some_iff.mp H
       obtain ⟨t278, A660, H⟩ := H
       try dsimp only at H
       have A66 := Aside0.mk A660
       clear A660
       by_cases c67 : t278 = true
       ·
        subst c67
        have H1 := H
        rw [if_pos rfl] at H1
        clear H
        have H := H1
        clear H1
        replace H := Option.bind_eq_some_iff.mp H
        obtain ⟨t279, A680, H⟩ := H
        try dsimp only at H
        have A68 := Aside0.mk A680
        clear A680
        obtain rfl := Option.some.inj H
        have hnb69 := NB228_223.out
        have hnc69 := NB223_228.out
        have hnb70 := NB228_233.out
        have hnc70 := NB233_228.out
        have hnb71 := NB228_257.out
        have hnc71 := NB257_228.out
        have hcz72_0 : wc.cell? ⟨gb228, 0, none⟩ = some (.string t224) := (blk_cell BK228.out 0).trans rfl
        have hcz72_1 : wc.cell? ⟨gb228, 1, none⟩ = some (.slice Ao13 t225.length co13) := (blk_cell BK228.out 1).trans rfl
        have hfz72_0 := blk_frozen BK228.out 0
        have hfz72_1 := blk_frozen BK228.out 1
        have hnb73 := NB257_223.out
        have hnc73 := NB223_257.out
        have hnb74 := NB257_233.out
        have hnc74 := NB233_257.out
        have hcz75_0 : wc.cell? ⟨gb257, 0, none⟩ = some (u258000) := (blk_cell BK257.out 0).trans rfl
        have hfz75_0 := blk_frozen BK257.out 0
        obtain ⟨Ao76, co76, eo76⟩ := Kd.R_slice HO_9.out
        subst eo76
        obtain ⟨Ao77, co77, eo77⟩ := Kd.R_slice HO_258000.out
        subst eo77
        go_wp2_with (first | ((with_reducible refine gate_callee (f := 8) rfl ?_); refine goesM_ (some 70) Try.func8 #[.agg #[.string t224, .slice Ao13 t225.length co13], .slice Ao76 x9_5.length co76, .func (.func 9) #[] #[.pointer (some ⟨gb257, 0, none⟩)]] ?_; (with_reducible refine (refs_ApplyW.calls kj40 t224 (fun k_ => (some k_ ≠ (.slice Ao76 x9_5.length co76 : Value).ownBlock ∧ (some k_ ≠ (u10 : Value).ownBlock ∧ (some k_ ≠ (.slice Ao19 t230.length co19 : Value).ownBlock ∧ (some k_ ≠ (.slice Ao77 x258000_40.length co77 : Value).ownBlock ∧ (k_ ≠ gb223 ∧ (k_ ≠ gb228 ∧ (k_ ≠ gb233 ∧ k_ ≠ gb257)))))))) _ _ t225 _ _ x9_5 _ _ x258000_40 t265 t266 t269 _ ?side1 ?side2 ?side3 ?side4 ?side5 A61.out (gq := gb257) (kz_ BK257.out)).mono ?_); (case side1 => exact HO_229001.out); (case side2 => repeat (first | exact (Kd.R_reads' HO_9.out).2.2 | (with_reducible refine Kd.C_alloc ?_ _) | (with_reducible refine Kd.C_drewN ?_ _) | (with_reducible refine Kd.C_drew ?_))); (case side3 => exact (Kd.R_reads' HO_9.out).2.1); (case side4 => repeat (first | exact (Kd.R_reads' HO_258000.out).2.2 | (with_reducible refine Kd.C_alloc ?_ _) | (with_reducible refine Kd.C_drewN ?_ _) | (with_reducible refine Kd.C_drew ?_))); (case side5 => exact (Kd.R_reads' HO_258000.out).2.1); rintro e w78 ⟨v267, rfl, ho0, hb⟩; refine ⟨_, rfl, ?_⟩; have n0_ := Aside0.mk (Kd.R_below (rz_ HO_9.out) hb); have n1_ := Aside0.mk (Kd.R_below (rz_ HO_10.out) hb); have n2_ := Aside0.mk (Kd.V_below (by (with_reducible repeat (first | apply Kd.V_alloc | apply Kd.V_drewN | apply Kd.V_drew)); exact HO_229001.out) hb); have n3_ := Aside0.mk (Kd.R_below (rz_ HO_234001.out) hb); have n4_ := Aside0.mk (Kd.R_below (rz_ HO_258000.out) hb); have n5_ := Aside0.mk (Kd.V_lower (Kd.V_mono (ok' := fun k_ => some k_ ≠ (.slice Ao76 x9_5.length co76 : Value).ownBlock ∧ some k_ ≠ (u10 : Value).ownBlock ∧ some k_ ≠ (.slice Ao19 t230.length co19 : Value).ownBlock ∧ some k_ ≠ (.slice Ao77 x258000_40.length co77 : Value).ownBlock ∧ k_ ≠ gb223 ∧ k_ ≠ gb228 ∧ k_ ≠ gb233 ∧ k_ ≠ gb257) ho0 (fun k_ hk_ => ⟨Or.elim hk_ (fun hs_ => hs_.1) (fun hn_ => (Kd.fresh' (Kd.R_lt (rz_ HO_9.out)) k_ hn_)), Or.elim hk_ (fun hs_ => hs_.2.1) (fun hn_ => (Kd.fresh' (Kd.R_lt (rz_ HO_10.out)) k_ hn_)), Or.elim hk_ (fun hs_ => hs_.2.2.1) (fun hn_ => (Kd.fresh' (Kd.R_lt (rz_ HO_234001.out)) k_ hn_)), Or.elim hk_ (fun hs_ => hs_.2.2.2.1) (fun hn_ => (Kd.fresh' (Kd.R_lt (rz_ HO_258000.out)) k_ hn_)), Or.elim hk_ (fun hs_ => hs_.2.2.2.2.1) (fun hn_ => (Kd.freshB (g := gb223) (o := .cells #[.string a0_0, .slice A0_1 l0_1.length c0_1] 24 (0, 0)) (kz_ BK223.out) k_ hn_)), Or.elim hk_ (fun hs_ => hs_.2.2.2.2.2.1) (fun hn_ => (Kd.freshB (g := gb228) (o := .cells #[.string t224, .slice Ao13 t225.length co13] 24 (0, 0)) (kz_ BK228.out) k_ hn_)), Or.elim hk_ (fun hs_ => hs_.2.2.2.2.2.2.1) (fun hn_ => (Kd.freshB (g := gb233) (o := .cells #[.string t229, .slice Ao19 t230.length co19] 30 (0, 0)) (kz_ BK233.out) k_ hn_)), Or.elim hk_ (fun hs_ => hs_.2.2.2.2.2.2.2) (fun hn_ => (Kd.freshB (g := gb257) (o := .cells #[.slice Ao77 x258000_40.length co77] 36 (0, 0)) (kz_ BK257.out) k_ hn_))⟩)) (below_size (by repeat (first | (with_reducible first | exact HB.out | apply below_alloc | apply pw_below_drewN | apply below_drew1 | refine below_set ?_ GE223.out | refine below_set ?_ GE228.out | refine below_set ?_ GE233.out | refine below_set ?_ GE257.out) | exact HB.out)))); have n6_ := Aside0.mk (blk_below (g := gb223) (o := .cells #[.string a0_0, .slice A0_1 l0_1.length c0_1] 24 (0, 0)) (kz_ BK223.out) hb); have n7_ := Aside0.mk (blk_below (g := gb228) (o := .cells #[.string t224, .slice Ao13 t225.length co13] 24 (0, 0)) (kz_ BK228.out) hb); have n8_ := Aside0.mk (blk_below (g := gb233) (o := .cells #[.string t229, .slice Ao19 t230.length co19] 30 (0, 0)) (kz_ BK233.out) hb); have n9_ := Aside0.mk (blk_below (g := gb257) (o := .cells #[.slice Ao77 x258000_40.length co77] 36 (0, 0)) (kz_ BK257.out) hb); have n10_ := Aside0.mk (below_step (by repeat (first | (with_reducible first | exact HB.out | apply below_alloc | apply pw_below_drewN | apply below_drew1 | refine below_set ?_ GE223.out | refine below_set ?_ GE228.out | refine below_set ?_ GE233.out | refine below_set ?_ GE257.out) | exact HB.out)) hb); clear HO_9; clear HO_10; clear HO_229001; clear HO_234001; clear HO_258000; clear BK223; clear BK228; clear BK233; clear BK257; clear HB; have HO_9 := n0_; have HO_10 := n1_; have HO_229001 := n2_; have HO_234001 := n3_; have HO_258000 := n4_; have HO268 := n5_; have BK223 := n6_; have BK228 := n7_; have BK233 := n8_; have BK257 := n9_; have HB := n10_; clear n0_ n1_ n2_ n3_ n4_ n5_ n6_ n7_ n8_ n9_ n10_; (try clear hb); (try clear hb2); (try clear hk); (try clear hi); (try clear ho0)) | ((with_reducible refine gate_dst (N := 14) rfl ?_); refine box_event ?hg (N := 14) ?hd (cs := #[.string (⟨#[]⟩ : ByteArray), .slice none 0 0]) (t := 24) ?hr ?_; (case hd => rfl); (case hg => rfl); (case hr => first | (go_simp; done) | (go_simp; rfl)); intro gb270 hg w79 hbox hb; have n0_ := Aside0.mk (Kd.R_below (rz_ HO_9.out) hb); have n1_ := Aside0.mk (Kd.R_below (rz_ HO_10.out) hb); have n2_ := Aside0.mk (Kd.V_below (Kd.V_elderB (by (with_reducible repeat (first | apply Kd.V_alloc | apply Kd.V_drewN | apply Kd.V_drew)); exact HO_229001.out) gb270 (Nat.le_of_eq hg.symm)) hb); have n3_ := Aside0.mk (Kd.R_below (rz_ HO_234001.out) hb); have n4_ := Aside0.mk (Kd.R_below (rz_ HO_258000.out) hb); have n5_ := Aside0.mk (Kd.V_below (Kd.V_elderB (by (with_reducible repeat (first | apply Kd.V_alloc | apply Kd.V_drewN | apply Kd.V_drew)); exact HO268.out) gb270 (Nat.le_of_eq hg.symm)) hb); have n6_ := Aside0.mk (blk_below (g := gb223) (o := .cells #[.string a0_0, .slice A0_1 l0_1.length c0_1] 24 (0, 0)) (kz_ BK223.out) hb); have n7_ := Aside0.mk (blk_below (g := gb228) (o := .cells #[.string t224, .slice Ao13 t225.length co13] 24 (0, 0)) (kz_ BK228.out) hb); have n8_ := Aside0.mk (blk_below (g := gb233) (o := .cells #[.string t229, .slice Ao19 t230.length co19] 30 (0, 0)) (kz_ BK233.out) hb); have n9_ := Aside0.mk (blk_below (g := gb257) (o := .cells #[.slice Ao77 x258000_40.length co77] 36 (0, 0)) (kz_ BK257.out) hb); have n10_ := Aside0.mk (below_step (by repeat (first | (with_reducible first | exact HB.out | apply below_alloc | apply pw_below_drewN | apply below_drew1 | refine below_set ?_ GE223.out | refine below_set ?_ GE228.out | refine below_set ?_ GE233.out | refine below_set ?_ GE257.out) | exact HB.out)) hb); have n11_ := Aside0.mk (hbox); have n12_ := Aside0.mk ((by rw [hg]; exact (below_size (by repeat (first | (with_reducible first | exact HB.out | apply below_alloc | apply pw_below_drewN | apply below_drew1 | refine below_set ?_ GE223.out | refine below_set ?_ GE228.out | refine below_set ?_ GE233.out | refine below_set ?_ GE257.out) | exact HB.out))) : w.heap.size ≤ gb270)); have n13_ := Aside0.mk ((by rw [hg]; exact (below_size (by repeat (first | (with_reducible first | exact HB.out | apply below_alloc | apply pw_below_drewN | apply below_drew1 | refine below_set ?_ GE223.out | refine below_set ?_ GE228.out | refine below_set ?_ GE233.out | refine below_set ?_ GE257.out) | exact HB.out))) : w.heap.size ≤ gb270)); have n14_ := Aside0.mk ((by rw [hg]; exact Nat.ne_of_lt (blk_lt (g := gb223) (o := .cells #[.string a0_0, .slice A0_1 l0_1.length c0_1] 24 (0, 0)) (kz_ BK223.out)) : gb223 ≠ gb270)); have n15_ := Aside0.mk ((by rw [hg]; exact Nat.ne_of_gt (blk_lt (g := gb223) (o := .cells #[.string a0_0, .slice A0_1 l0_1.length c0_1] 24 (0, 0)) (kz_ BK223.out)) : gb270 ≠ gb223)); have n16_ := Aside0.mk ((by rw [hg]; exact Nat.ne_of_lt (blk_lt (g := gb228) (o := .cells #[.string t224, .slice Ao13 t225.length co13] 24 (0, 0)) (kz_ BK228.out)) : gb228 ≠ gb270)); have n17_ := Aside0.mk ((by rw [hg]; exact Nat.ne_of_gt (blk_lt (g := gb228) (o := .cells #[.string t224, .slice Ao13 t225.length co13] 24 (0, 0)) (kz_ BK228.out)) : gb270 ≠ gb228)); have n18_ := Aside0.mk ((by rw [hg]; exact Nat.ne_of_lt (blk_lt (g := gb233) (o := .cells #[.string t229, .slice Ao19 t230.length co19] 30 (0, 0)) (kz_ BK233.out)) : gb233 ≠ gb270)); have n19_ := Aside0.mk ((by rw [hg]; exact Nat.ne_of_gt (blk_lt (g := gb233) (o := .cells #[.string t229, .slice Ao19 t230.length co19] 30 (0, 0)) (kz_ BK233.out)) : gb270 ≠ gb233)); have n20_ := Aside0.mk ((by rw [hg]; exact Nat.ne_of_lt (blk_lt (g := gb257) (o := .cells #[.slice Ao77 x258000_40.length co77] 36 (0, 0)) (kz_ BK257.out)) : gb257 ≠ gb270)); have n21_ := Aside0.mk ((by rw [hg]; exact Nat.ne_of_gt (blk_lt (g := gb257) (o := .cells #[.slice Ao77 x258000_40.length co77] 36 (0, 0)) (kz_ BK257.out)) : gb270 ≠ gb257)); clear HO_9; clear HO_10; clear HO_229001; clear HO_234001; clear HO_258000; clear HO268; clear BK223; clear BK228; clear BK233; clear BK257; clear HB; have HO_9 := n0_; have HO_10 := n1_; have HO_229001 := n2_; have HO_234001 := n3_; have HO_258000 := n4_; have HO268 := n5_; have BK223 := n6_; have BK228 := n7_; have BK233 := n8_; have BK257 := n9_; have HB := n10_; have BK270 := n11_; have GW270 := n12_; have GE270 := n13_; have NB223_270 := n14_; have NB270_223 := n15_; have NB228_270 := n16_; have NB270_228 := n17_; have NB233_270 := n18_; have NB270_233 := n19_; have NB257_270 := n20_; have NB270_257 := n21_; clear n0_ n1_ n2_ n3_ n4_ n5_ n6_ n7_ n8_ n9_ n10_ n11_ n12_ n13_ n14_ n15_ n16_ n17_ n18_ n19_ n20_ n21_; clear hb hbox hg; have hnb80 := NB270_223.out; have hnc80 := NB223_270.out; have hnb81 := NB270_228.out; have hnc81 := NB228_270.out; have hnb82 := NB270_233.out; have hnc82 := NB233_270.out; have hnb83 := NB270_257.out; have hnc83 := NB257_270.out; have hcz84_0 : w79.cell? ⟨gb270, 0, none⟩ = some (.string (⟨#[]⟩ : ByteArray)) := (blk_cell BK270.out 0).trans rfl; have hcz84_1 : w79.cell? ⟨gb270, 1, none⟩ = some (.slice none 0 0) := (blk_cell BK270.out 1).trans rfl; have hfz84_0 := blk_frozen BK270.out 0; have hfz84_1 := blk_frozen BK270.out 1; obtain ⟨Ao85, co85, eo85⟩ := Kd.V_slice HO268.out; subst eo85) | ((with_reducible refine gate_store (t := 24) (p := 14) rfl ?_); refine store_event (t := 24) (p := 14) (v := ?vo_w86) (w1 := ((w79.setCell ⟨gb270, 0, none⟩ (.string t265)).setCell ⟨gb270, 1, none⟩ (.slice Ao85 t266.length co85))) ?hg ?ho ?hn ?hr ?_; (case ho => rfl); (case hg => rfl); (case hn => rfl); (case hr => first | (go_simp; done) | (go_simp; rfl)); intro w86 hw; have n0_ : Aside0 (Kd.R k34 34 w86 w.heap.size (fun _ => True) (.slice Ao76 x9_5.length co76) x9_5) := ⟨(by rw [hw]; exact (by (with_reducible repeat (first | apply Kd.R_alloc | apply Kd.R_drewN | apply Kd.R_drew)); exact Kd.R_mono (Kd.R_far (p := ⟨gb270, 1, none⟩) (Kd.R_far (p := ⟨gb270, 0, none⟩) (Kd.R_types HO_9.out BK270.out (by decide)) (fun _ hk => hk.2) (.string t265)) (fun _ hk => hk.2) (.slice Ao85 t266.length co85)) (fun _ hk => trivial)))⟩; have n1_ : Aside0 (Kd.R k35 35 w86 w.heap.size (fun _ => True) u10 x10_5) := ⟨(by rw [hw]; exact (by (with_reducible repeat (first | apply Kd.R_alloc | apply Kd.R_drewN | apply Kd.R_drew)); exact Kd.R_mono (Kd.R_far (p := ⟨gb270, 1, none⟩) (Kd.R_far (p := ⟨gb270, 0, none⟩) (Kd.R_types HO_10.out BK270.out (by decide)) (fun _ hk => hk.2) (.string t265)) (fun _ hk => hk.2) (.slice Ao85 t266.length co85)) (fun _ hk => trivial)))⟩; have n2_ : Aside0 (Kd.V k50 50 w86 w.heap.size (fun k_ => some k_ ≠ (.slice Ao76 x9_5.length co76 : Value).ownBlock ∧ some k_ ≠ (u10 : Value).ownBlock ∧ some k_ ≠ (.slice Ao19 t230.length co19 : Value).ownBlock ∧ some k_ ≠ (.slice Ao77 x258000_40.length co77 : Value).ownBlock ∧ k_ ≠ gb223 ∧ k_ ≠ gb228 ∧ k_ ≠ gb233 ∧ k_ ≠ gb257 ∧ k_ ≠ gb270) (.slice Ao13 t225.length co13) t225) := ⟨(by rw [hw]; exact (by (with_reducible repeat (first | apply Kd.V_alloc | apply Kd.V_drewN | apply Kd.V_drew)); exact Kd.V_mono (Kd.V_far (p := ⟨gb270, 1, none⟩) (Kd.V_far (p := ⟨gb270, 0, none⟩) (Kd.V_mono HO_229001.out (fun k_ hk => (⟨hk, hk.2⟩ : _ ∧ k_ ≠ gb270))) (fun _ hk => hk.2) (.string t265)) (fun _ hk => hk.2) (.slice Ao85 t266.length co85)) (fun _ hk => ⟨hk.1.1.1, ⟨hk.1.1.2.1, ⟨hk.1.1.2.2.1, ⟨hk.1.1.2.2.2.1, ⟨hk.1.1.2.2.2.2.1, ⟨hk.1.1.2.2.2.2.2.1, ⟨hk.1.1.2.2.2.2.2.2.1, ⟨hk.1.1.2.2.2.2.2.2.2, hk.1.2⟩⟩⟩⟩⟩⟩⟩⟩)))⟩; have n3_ : Aside0 (Kd.R k61 61 w86 w.heap.size (fun _ => True) (.slice Ao19 t230.length co19) t230) := ⟨(by rw [hw]; exact (by (with_reducible repeat (first | apply Kd.R_alloc | apply Kd.R_drewN | apply Kd.R_drew)); exact Kd.R_mono (Kd.R_far (p := ⟨gb270, 1, none⟩) (Kd.R_far (p := ⟨gb270, 0, none⟩) (Kd.R_types HO_234001.out BK270.out (by decide)) (fun _ hk => hk.2) (.string t265)) (fun _ hk => hk.2) (.slice Ao85 t266.length co85)) (fun _ hk => trivial)))⟩; have n4_ : Aside0 (Kd.R k37 37 w86 w.heap.size (fun _ => True) (.slice Ao77 x258000_40.length co77) x258000_40) := ⟨(by rw [hw]; exact (by (with_reducible repeat (first | apply Kd.R_alloc | apply Kd.R_drewN | apply Kd.R_drew)); exact Kd.R_mono (Kd.R_far (p := ⟨gb270, 1, none⟩) (Kd.R_far (p := ⟨gb270, 0, none⟩) (Kd.R_types HO_258000.out BK270.out (by decide)) (fun _ hk => hk.2) (.string t265)) (fun _ hk => hk.2) (.slice Ao85 t266.length co85)) (fun _ hk => trivial)))⟩; have n5_ : Aside0 (Kd.V k50 50 w86 w.heap.size (fun k_ => some k_ ≠ (.slice Ao76 x9_5.length co76 : Value).ownBlock ∧ some k_ ≠ (u10 : Value).ownBlock ∧ some k_ ≠ (.slice Ao19 t230.length co19 : Value).ownBlock ∧ some k_ ≠ (.slice Ao77 x258000_40.length co77 : Value).ownBlock ∧ k_ ≠ gb223 ∧ k_ ≠ gb228 ∧ k_ ≠ gb233 ∧ k_ ≠ gb257 ∧ k_ ≠ gb270) (.slice Ao85 t266.length co85) t266) := ⟨(by rw [hw]; exact (by (with_reducible repeat (first | apply Kd.V_alloc | apply Kd.V_drewN | apply Kd.V_drew)); exact Kd.V_mono (Kd.V_far (p := ⟨gb270, 1, none⟩) (Kd.V_far (p := ⟨gb270, 0, none⟩) (Kd.V_mono HO268.out (fun k_ hk => (⟨hk, hk.2⟩ : _ ∧ k_ ≠ gb270))) (fun _ hk => hk.2) (.string t265)) (fun _ hk => hk.2) (.slice Ao85 t266.length co85)) (fun _ hk => ⟨hk.1.1.1, ⟨hk.1.1.2.1, ⟨hk.1.1.2.2.1, ⟨hk.1.1.2.2.2.1, ⟨hk.1.1.2.2.2.2.1, ⟨hk.1.1.2.2.2.2.2.1, ⟨hk.1.1.2.2.2.2.2.2.1, ⟨hk.1.1.2.2.2.2.2.2.2, hk.1.2⟩⟩⟩⟩⟩⟩⟩⟩)))⟩; have n6_ : Aside0 (w86.heap[gb223]? = some (.cells #[.string a0_0, .slice A0_1 l0_1.length c0_1] 24 (0, 0))) := ⟨(by rw [hw]; exact (by (with_reducible repeat (first | refine blk_drewN ?_ _ | refine blk_drew ?_ | refine blk_alloc ?_ _)); refine blk_far ?_ NB223_270.out _; (with_reducible repeat (first | refine blk_drewN ?_ _ | refine blk_drew ?_ | refine blk_alloc ?_ _)); refine blk_far ?_ NB223_270.out _; (with_reducible repeat (first | refine blk_drewN ?_ _ | refine blk_drew ?_ | refine blk_alloc ?_ _)); exact BK223.out))⟩; have n7_ : Aside0 (w86.heap[gb228]? = some (.cells #[.string t224, .slice Ao13 t225.length co13] 24 (0, 0))) := ⟨(by rw [hw]; exact (by (with_reducible repeat (first | refine blk_drewN ?_ _ | refine blk_drew ?_ | refine blk_alloc ?_ _)); refine blk_far ?_ NB228_270.out _; (with_reducible repeat (first | refine blk_drewN ?_ _ | refine blk_drew ?_ | refine blk_alloc ?_ _)); refine blk_far ?_ NB228_270.out _; (with_reducible repeat (first | refine blk_drewN ?_ _ | refine blk_drew ?_ | refine blk_alloc ?_ _)); exact BK228.out))⟩; have n8_ : Aside0 (w86.heap[gb233]? = some (.cells #[.string t229, .slice Ao19 t230.length co19] 30 (0, 0))) := ⟨(by rw [hw]; exact (by (with_reducible repeat (first | refine blk_drewN ?_ _ | refine blk_drew ?_ | refine blk_alloc ?_ _)); refine blk_far ?_ NB233_270.out _; (with_reducible repeat (first | refine blk_drewN ?_ _ | refine blk_drew ?_ | refine blk_alloc ?_ _)); refine blk_far ?_ NB233_270.out _; (with_reducible repeat (first | refine blk_drewN ?_ _ | refine blk_drew ?_ | refine blk_alloc ?_ _)); exact BK233.out))⟩; have n9_ : Aside0 (w86.heap[gb257]? = some (.cells #[.slice Ao77 x258000_40.length co77] 36 (0, 0))) := ⟨(by rw [hw]; exact (by (with_reducible repeat (first | refine blk_drewN ?_ _ | refine blk_drew ?_ | refine blk_alloc ?_ _)); refine blk_far ?_ NB257_270.out _; (with_reducible repeat (first | refine blk_drewN ?_ _ | refine blk_drew ?_ | refine blk_alloc ?_ _)); refine blk_far ?_ NB257_270.out _; (with_reducible repeat (first | refine blk_drewN ?_ _ | refine blk_drew ?_ | refine blk_alloc ?_ _)); exact BK257.out))⟩; have n10_ : Aside0 (w86.heap[gb270]? = some (.cells #[.string t265, .slice Ao85 t266.length co85] 24 (0, 0))) := ⟨(by rw [hw]; exact (by (with_reducible repeat (first | refine blk_drewN ?_ _ | refine blk_drew ?_ | refine blk_alloc ?_ _)); refine blk_put (cs := #[.string t265, .slice none 0 0]) ?_ 1 _ rfl; (with_reducible repeat (first | refine blk_drewN ?_ _ | refine blk_drew ?_ | refine blk_alloc ?_ _)); refine blk_put (cs := #[.string (⟨#[]⟩ : ByteArray), .slice none 0 0]) ?_ 0 _ rfl; (with_reducible repeat (first | refine blk_drewN ?_ _ | refine blk_drew ?_ | refine blk_alloc ?_ _)); exact BK270.out))⟩; have n11_ : Aside0 (Below w.heap.size w w86) := ⟨(by rw [hw]; exact (by repeat (first | (with_reducible first | exact HB.out | apply below_alloc | apply pw_below_drewN | apply below_drew1 | refine below_set ?_ GE223.out | refine below_set ?_ GE228.out | refine below_set ?_ GE233.out | refine below_set ?_ GE257.out | refine below_set ?_ GE270.out) | exact HB.out)))⟩; clear hw; clear HO_9; clear HO_10; clear HO_229001; clear HO_234001; clear HO_258000; clear HO268; clear BK223; clear BK228; clear BK233; clear BK257; clear BK270; clear HB; have HO_9 := n0_; have HO_10 := n1_; have HO_229001 := n2_; have HO_234001 := n3_; have HO_258000 := n4_; have HO268 := n5_; have BK223 := n6_; have BK228 := n7_; have BK233 := n8_; have BK257 := n9_; have BK270 := n10_; have HB := n11_; clear n0_ n1_ n2_ n3_ n4_ n5_ n6_ n7_ n8_ n9_ n10_ n11_; have hnb87 := NB233_223.out; have hnc87 := NB223_233.out; have hcz88_0 : w86.cell? ⟨gb233, 0, none⟩ = some (.string t229) := (blk_cell BK233.out 0).trans rfl; have hcz88_1 : w86.cell? ⟨gb233, 1, none⟩ = some (.slice Ao19 t230.length co19) := (blk_cell BK233.out 1).trans rfl; have hfz88_0 := blk_frozen BK233.out 0; have hfz88_1 := blk_frozen BK233.out 1; have hcz89_0 : w86.cell? ⟨gb257, 0, none⟩ = some (.slice Ao77 x258000_40.length co77) := (blk_cell BK257.out 0).trans rfl; have hfz89_0 := blk_frozen BK257.out 0; obtain ⟨Ao90, co90, eo90⟩ := Kd.R_slice HO_10.out; subst eo90) | ((with_reducible refine gate_callee (f := 11) rfl ?_); refine goesM_ (some 77) Try.func11 #[.agg #[.string t229, .slice Ao19 t230.length co19], .slice Ao90 x10_5.length co90, .slice Ao77 x258000_40.length co77] ?_; (with_reducible refine (pollardref13_Apply.calls kj40 t229 (fun k_ => some k_ = (.slice Ao19 t230.length co19 : Value).ownBlock) _ _ t230 _ _ x10_5 _ _ x258000_40 t271 t272 t275 _ ?side1 ?side2 ?side3 ?side4 ?side5 A62.out).mono ?_); (case side1 => exact Kd.R_V (Kd.R_tight rfl (Kd.R_types (Kd.R_types (Kd.R_types (Kd.R_types (Kd.R_types (Kd.R_apart' (Kd.R_apart' (Kd.R_apart' (HO_234001.out) (Kd.R_typed HO_9.out) (by decide)) (Kd.R_typed HO_10.out) (by decide)) (Kd.R_typed HO_258000.out) (by decide)) BK223.out (by decide)) BK228.out (by decide)) BK233.out (by decide)) BK257.out (by decide)) BK270.out (by decide)))); (case side2 => repeat (first | exact (Kd.R_reads' HO_10.out).2.2 | (with_reducible refine Kd.C_alloc ?_ _) | (with_reducible refine Kd.C_drewN ?_ _) | (with_reducible refine Kd.C_drew ?_))); (case side3 => exact (Kd.R_reads' HO_10.out).2.1); (case side4 => repeat (first | exact (Kd.R_reads' HO_258000.out).2.2 | (with_reducible refine Kd.C_alloc ?_ _) | (with_reducible refine Kd.C_drewN ?_ _) | (with_reducible refine Kd.C_drew ?_))); (case side5 => exact (Kd.R_reads' HO_258000.out).2.1); rintro e w91 ⟨v273, rfl, ho0, hb⟩; refine ⟨_, rfl, ?_⟩; have n0_ := Aside0.mk (Kd.R_below (rz_ HO_9.out) hb); have n1_ := Aside0.mk (Kd.R_below (rz_ HO_10.out) hb); have n2_ := Aside0.mk (Kd.V_below (by (with_reducible repeat (first | apply Kd.V_alloc | apply Kd.V_drewN | apply Kd.V_drew)); exact HO_229001.out) hb); have n3_ := Aside0.mk (Kd.R_below (rz_ HO_234001.out) hb); have n4_ := Aside0.mk (Kd.R_below (rz_ HO_258000.out) hb); have n5_ := Aside0.mk (Kd.V_below (by (with_reducible repeat (first | apply Kd.V_alloc | apply Kd.V_drewN | apply Kd.V_drew)); exact HO268.out) hb); have n6_ := Aside0.mk (Kd.V_lower (Kd.V_mono (ok' := fun k_ => some k_ ≠ (.slice Ao76 x9_5.length co76 : Value).ownBlock ∧ some k_ ≠ (.slice Ao90 x10_5.length co90 : Value).ownBlock ∧ some k_ ≠ (.slice Ao77 x258000_40.length co77 : Value).ownBlock ∧ k_ ≠ gb223 ∧ k_ ≠ gb228 ∧ k_ ≠ gb233 ∧ k_ ≠ gb257 ∧ k_ ≠ gb270) ho0 (fun k_ hk_ => ⟨Or.elim hk_ (fun hs_ => ((Kd.R_types (Kd.R_types (Kd.R_types (Kd.R_types (Kd.R_types (Kd.R_apart' (Kd.R_apart' (Kd.R_apart' (HO_234001.out) (Kd.R_typed HO_9.out) (by decide)) (Kd.R_typed HO_10.out) (by decide)) (Kd.R_typed HO_258000.out) (by decide)) BK223.out (by decide)) BK228.out (by decide)) BK233.out (by decide)) BK257.out (by decide)) BK270.out (by decide)).1 k_ hs_.symm).1.1.1.1.1.1.1.2) (fun hn_ => (Kd.fresh' (Kd.R_lt (rz_ HO_9.out)) k_ hn_)), Or.elim hk_ (fun hs_ => ((Kd.R_types (Kd.R_types (Kd.R_types (Kd.R_types (Kd.R_types (Kd.R_apart' (Kd.R_apart' (Kd.R_apart' (HO_234001.out) (Kd.R_typed HO_9.out) (by decide)) (Kd.R_typed HO_10.out) (by decide)) (Kd.R_typed HO_258000.out) (by decide)) BK223.out (by decide)) BK228.out (by decide)) BK233.out (by decide)) BK257.out (by decide)) BK270.out (by decide)).1 k_ hs_.symm).1.1.1.1.1.1.2) (fun hn_ => (Kd.fresh' (Kd.R_lt (rz_ HO_10.out)) k_ hn_)), Or.elim hk_ (fun hs_ => ((Kd.R_types (Kd.R_types (Kd.R_types (Kd.R_types (Kd.R_types (Kd.R_apart' (Kd.R_apart' (Kd.R_apart' (HO_234001.out) (Kd.R_typed HO_9.out) (by decide)) (Kd.R_typed HO_10.out) (by decide)) (Kd.R_typed HO_258000.out) (by decide)) BK223.out (by decide)) BK228.out (by decide)) BK233.out (by decide)) BK257.out (by decide)) BK270.out (by decide)).1 k_ hs_.symm).1.1.1.1.1.2) (fun hn_ => (Kd.fresh' (Kd.R_lt (rz_ HO_258000.out)) k_ hn_)), Or.elim hk_ (fun hs_ => ((Kd.R_types (Kd.R_types (Kd.R_types (Kd.R_types (Kd.R_types (Kd.R_apart' (Kd.R_apart' (Kd.R_apart' (HO_234001.out) (Kd.R_typed HO_9.out) (by decide)) (Kd.R_typed HO_10.out) (by decide)) (Kd.R_typed HO_258000.out) (by decide)) BK223.out (by decide)) BK228.out (by decide)) BK233.out (by decide)) BK257.out (by decide)) BK270.out (by decide)).1 k_ hs_.symm).1.1.1.1.2) (fun hn_ => (Kd.freshB (g := gb223) (o := .cells #[.string a0_0, .slice A0_1 l0_1.length c0_1] 24 (0, 0)) (kz_ BK223.out) k_ hn_)), Or.elim hk_ (fun hs_ => ((Kd.R_types (Kd.R_types (Kd.R_types (Kd.R_types (Kd.R_types (Kd.R_apart' (Kd.R_apart' (Kd.R_apart' (HO_234001.out) (Kd.R_typed HO_9.out) (by decide)) (Kd.R_typed HO_10.out) (by decide)) (Kd.R_typed HO_258000.out) (by decide)) BK223.out (by decide)) BK228.out (by decide)) BK233.out (by decide)) BK257.out (by decide)) BK270.out (by decide)).1 k_ hs_.symm).1.1.1.2) (fun hn_ => (Kd.freshB (g := gb228) (o := .cells #[.string t224, .slice Ao13 t225.length co13] 24 (0, 0)) (kz_ BK228.out) k_ hn_)), Or.elim hk_ (fun hs_ => ((Kd.R_types (Kd.R_types (Kd.R_types (Kd.R_types (Kd.R_types (Kd.R_apart' (Kd.R_apart' (Kd.R_apart' (HO_234001.out) (Kd.R_typed HO_9.out) (by decide)) (Kd.R_typed HO_10.out) (by decide)) (Kd.R_typed HO_258000.out) (by decide)) BK223.out (by decide)) BK228.out (by decide)) BK233.out (by decide)) BK257.out (by decide)) BK270.out (by decide)).1 k_ hs_.symm).1.1.2) (fun hn_ => (Kd.freshB (g := gb233) (o := .cells #[.string t229, .slice Ao19 t230.length co19] 30 (0, 0)) (kz_ BK233.out) k_ hn_)), Or.elim hk_ (fun hs_ => ((Kd.R_types (Kd.R_types (Kd.R_types (Kd.R_types (Kd.R_types (Kd.R_apart' (Kd.R_apart' (Kd.R_apart' (HO_234001.out) (Kd.R_typed HO_9.out) (by decide)) (Kd.R_typed HO_10.out) (by decide)) (Kd.R_typed HO_258000.out) (by decide)) BK223.out (by decide)) BK228.out (by decide)) BK233.out (by decide)) BK257.out (by decide)) BK270.out (by decide)).1 k_ hs_.symm).1.2) (fun hn_ => (Kd.freshB (g := gb257) (o := .cells #[.slice Ao77 x258000_40.length co77] 36 (0, 0)) (kz_ BK257.out) k_ hn_)), Or.elim hk_ (fun hs_ => ((Kd.R_types (Kd.R_types (Kd.R_types (Kd.R_types (Kd.R_types (Kd.R_apart' (Kd.R_apart' (Kd.R_apart' (HO_234001.out) (Kd.R_typed HO_9.out) (by decide)) (Kd.R_typed HO_10.out) (by decide)) (Kd.R_typed HO_258000.out) (by decide)) BK223.out (by decide)) BK228.out (by decide)) BK233.out (by decide)) BK257.out (by decide)) BK270.out (by decide)).1 k_ hs_.symm).2) (fun hn_ => (Kd.freshB (g := gb270) (o := .cells #[.string t265, .slice Ao85 t266.length co85] 24 (0, 0)) (kz_ BK270.out) k_ hn_))⟩)) (below_size (by repeat (first | (with_reducible first | exact HB.out | apply below_alloc | apply pw_below_drewN | apply below_drew1 | refine below_set ?_ GE223.out | refine below_set ?_ GE228.out | refine below_set ?_ GE233.out | refine below_set ?_ GE257.out | refine below_set ?_ GE270.out) | exact HB.out)))); have n7_ := Aside0.mk (blk_below (g := gb223) (o := .cells #[.string a0_0, .slice A0_1 l0_1.length c0_1] 24 (0, 0)) (kz_ BK223.out) hb); have n8_ := Aside0.mk (blk_below (g := gb228) (o := .cells #[.string t224, .slice Ao13 t225.length co13] 24 (0, 0)) (kz_ BK228.out) hb); have n9_ := Aside0.mk (blk_below (g := gb233) (o := .cells #[.string t229, .slice Ao19 t230.length co19] 30 (0, 0)) (kz_ BK233.out) hb); have n10_ := Aside0.mk (blk_below (g := gb257) (o := .cells #[.slice Ao77 x258000_40.length co77] 36 (0, 0)) (kz_ BK257.out) hb); have n11_ := Aside0.mk (blk_below (g := gb270) (o := .cells #[.string t265, .slice Ao85 t266.length co85] 24 (0, 0)) (kz_ BK270.out) hb); have n12_ := Aside0.mk (below_step (by repeat (first | (with_reducible first | exact HB.out | apply below_alloc | apply pw_below_drewN | apply below_drew1 | refine below_set ?_ GE223.out | refine below_set ?_ GE228.out | refine below_set ?_ GE233.out | refine below_set ?_ GE257.out | refine below_set ?_ GE270.out) | exact HB.out)) hb); clear HO_9; clear HO_10; clear HO_229001; clear HO_234001; clear HO_258000; clear HO268; clear BK223; clear BK228; clear BK233; clear BK257; clear BK270; clear HB; have HO_9 := n0_; have HO_10 := n1_; have HO_229001 := n2_; have HO_234001 := n3_; have HO_258000 := n4_; have HO268 := n5_; have HO274 := n6_; have BK223 := n7_; have BK228 := n8_; have BK233 := n9_; have BK257 := n10_; have BK270 := n11_; have HB := n12_; clear n0_ n1_ n2_ n3_ n4_ n5_ n6_ n7_ n8_ n9_ n10_ n11_ n12_; (try clear hb); (try clear hb2); (try clear hk); (try clear hi); (try clear ho0)) | ((with_reducible refine gate_dst (N := 16) rfl ?_); refine box_event ?hg (N := 16) ?hd (cs := #[.string (⟨#[]⟩ : ByteArray), .slice none 0 0]) (t := 30) ?hr ?_; (case hd => rfl); (case hg => rfl); (case hr => first | (go_simp; done) | (go_simp; rfl)); intro gb276 hg w92 hbox hb; have n0_ := Aside0.mk (Kd.R_below (rz_ HO_9.out) hb); have n1_ := Aside0.mk (Kd.R_below (rz_ HO_10.out) hb); have n2_ := Aside0.mk (Kd.V_below (Kd.V_elderB (by (with_reducible repeat (first | apply Kd.V_alloc | apply Kd.V_drewN | apply Kd.V_drew)); exact HO_229001.out) gb276 (Nat.le_of_eq hg.symm)) hb); have n3_ := Aside0.mk (Kd.R_below (rz_ HO_234001.out) hb); have n4_ := Aside0.mk (Kd.R_below (rz_ HO_258000.out) hb); have n5_ := Aside0.mk (Kd.V_below (Kd.V_elderB (by (with_reducible repeat (first | apply Kd.V_alloc | apply Kd.V_drewN | apply Kd.V_drew)); exact HO268.out) gb276 (Nat.le_of_eq hg.symm)) hb); have n6_ := Aside0.mk (Kd.V_below (Kd.V_elderB (by (with_reducible repeat (first | apply Kd.V_alloc | apply Kd.V_drewN | apply Kd.V_drew)); exact HO274.out) gb276 (Nat.le_of_eq hg.symm)) hb); have n7_ := Aside0.mk (blk_below (g := gb223) (o := .cells #[.string a0_0, .slice A0_1 l0_1.length c0_1] 24 (0, 0)) (kz_ BK223.out) hb); have n8_ := Aside0.mk (blk_below (g := gb228) (o := .cells #[.string t224, .slice Ao13 t225.length co13] 24 (0, 0)) (kz_ BK228.out) hb); have n9_ := Aside0.mk (blk_below (g := gb233) (o := .cells #[.string t229, .slice Ao19 t230.length co19] 30 (0, 0)) (kz_ BK233.out) hb); have n10_ := Aside0.mk (blk_below (g := gb257) (o := .cells #[.slice Ao77 x258000_40.length co77] 36 (0, 0)) (kz_ BK257.out) hb); have n11_ := Aside0.mk (blk_below (g := gb270) (o := .cells #[.string t265, .slice Ao85 t266.length co85] 24 (0, 0)) (kz_ BK270.out) hb); have n12_ := Aside0.mk (below_step (by repeat (first | (with_reducible first | exact HB.out | apply below_alloc | apply pw_below_drewN | apply below_drew1 | refine below_set ?_ GE223.out | refine below_set ?_ GE228.out | refine below_set ?_ GE233.out | refine below_set ?_ GE257.out | refine below_set ?_ GE270.out) | exact HB.out)) hb); have n13_ := Aside0.mk (hbox); have n14_ := Aside0.mk ((by rw [hg]; exact (below_size (by repeat (first | (with_reducible first | exact HB.out | apply below_alloc | apply pw_below_drewN | apply below_drew1 | refine below_set ?_ GE223.out | refine below_set ?_ GE228.out | refine below_set ?_ GE233.out | refine below_set ?_ GE257.out | refine below_set ?_ GE270.out) | exact HB.out))) : w.heap.size ≤ gb276)); have n15_ := Aside0.mk ((by rw [hg]; exact (below_size (by repeat (first | (with_reducible first | exact HB.out | apply below_alloc | apply pw_below_drewN | apply below_drew1 | refine below_set ?_ GE223.out | refine below_set ?_ GE228.out | refine below_set ?_ GE233.out | refine below_set ?_ GE257.out | refine below_set ?_ GE270.out) | exact HB.out))) : w.heap.size ≤ gb276)); have n16_ := Aside0.mk ((by rw [hg]; exact Nat.ne_of_lt (blk_lt (g := gb223) (o := .cells #[.string a0_0, .slice A0_1 l0_1.length c0_1] 24 (0, 0)) (kz_ BK223.out)) : gb223 ≠ gb276)); have n17_ := Aside0.mk ((by rw [hg]; exact Nat.ne_of_gt (blk_lt (g := gb223) (o := .cells #[.string a0_0, .slice A0_1 l0_1.length c0_1] 24 (0, 0)) (kz_ BK223.out)) : gb276 ≠ gb223)); have n18_ := Aside0.mk ((by rw [hg]; exact Nat.ne_of_lt (blk_lt (g := gb228) (o := .cells #[.string t224, .slice Ao13 t225.length co13] 24 (0, 0)) (kz_ BK228.out)) : gb228 ≠ gb276)); have n19_ := Aside0.mk ((by rw [hg]; exact Nat.ne_of_gt (blk_lt (g := gb228) (o := .cells #[.string t224, .slice Ao13 t225.length co13] 24 (0, 0)) (kz_ BK228.out)) : gb276 ≠ gb228)); have n20_ := Aside0.mk ((by rw [hg]; exact Nat.ne_of_lt (blk_lt (g := gb233) (o := .cells #[.string t229, .slice Ao19 t230.length co19] 30 (0, 0)) (kz_ BK233.out)) : gb233 ≠ gb276)); have n21_ := Aside0.mk ((by rw [hg]; exact Nat.ne_of_gt (blk_lt (g := gb233) (o := .cells #[.string t229, .slice Ao19 t230.length co19] 30 (0, 0)) (kz_ BK233.out)) : gb276 ≠ gb233)); have n22_ := Aside0.mk ((by rw [hg]; exact Nat.ne_of_lt (blk_lt (g := gb257) (o := .cells #[.slice Ao77 x258000_40.length co77] 36 (0, 0)) (kz_ BK257.out)) : gb257 ≠ gb276)); have n23_ := Aside0.mk ((by rw [hg]; exact Nat.ne_of_gt (blk_lt (g := gb257) (o := .cells #[.slice Ao77 x258000_40.length co77] 36 (0, 0)) (kz_ BK257.out)) : gb276 ≠ gb257)); have n24_ := Aside0.mk ((by rw [hg]; exact Nat.ne_of_lt (blk_lt (g := gb270) (o := .cells #[.string t265, .slice Ao85 t266.length co85] 24 (0, 0)) (kz_ BK270.out)) : gb270 ≠ gb276)); have n25_ := Aside0.mk ((by rw [hg]; exact Nat.ne_of_gt (blk_lt (g := gb270) (o := .cells #[.string t265, .slice Ao85 t266.length co85] 24 (0, 0)) (kz_ BK270.out)) : gb276 ≠ gb270)); clear HO_9; clear HO_10; clear HO_229001; clear HO_234001; clear HO_258000; clear HO268; clear HO274; clear BK223; clear BK228; clear BK233; clear BK257; clear BK270; clear HB; have HO_9 := n0_; have HO_10 := n1_; have HO_229001 := n2_; have HO_234001 := n3_; have HO_258000 := n4_; have HO268 := n5_; have HO274 := n6_; have BK223 := n7_; have BK228 := n8_; have BK233 := n9_; have BK257 := n10_; have BK270 := n11_; have HB := n12_; have BK276 := n13_; have GW276 := n14_; have GE276 := n15_; have NB223_276 := n16_; have NB276_223 := n17_; have NB228_276 := n18_; have NB276_228 := n19_; have NB233_276 := n20_; have NB276_233 := n21_; have NB257_276 := n22_; have NB276_257 := n23_; have NB270_276 := n24_; have NB276_270 := n25_; clear n0_ n1_ n2_ n3_ n4_ n5_ n6_ n7_ n8_ n9_ n10_ n11_ n12_ n13_ n14_ n15_ n16_ n17_ n18_ n19_ n20_ n21_ n22_ n23_ n24_ n25_; clear hb hbox hg; have hnb93 := NB276_223.out; have hnc93 := NB223_276.out; have hnb94 := NB276_228.out; have hnc94 := NB228_276.out; have hnb95 := NB276_233.out; have hnc95 := NB233_276.out; have hnb96 := NB276_257.out; have hnc96 := NB257_276.out; have hnb97 := NB276_270.out; have hnc97 := NB270_276.out; have hcz98_0 : w92.cell? ⟨gb276, 0, none⟩ = some (.string (⟨#[]⟩ : ByteArray)) := (blk_cell BK276.out 0).trans rfl; have hcz98_1 : w92.cell? ⟨gb276, 1, none⟩ = some (.slice none 0 0) := (blk_cell BK276.out 1).trans rfl; have hfz98_0 := blk_frozen BK276.out 0; have hfz98_1 := blk_frozen BK276.out 1; obtain ⟨Ao99, co99, eo99⟩ := Kd.V_slice HO274.out; subst eo99) | ((with_reducible refine gate_callee (f := 12) rfl ?_); refine goesM_ (some 80) Try.func12 #[] ?_; (with_reducible refine (pollardlaw13_awake.calls kj40  true _ A63.out).mono ?_); rintro e w100 ⟨rfl, hb⟩; refine ⟨_, rfl, ?_⟩; have n0_ := Aside0.mk (Kd.R_below (rz_ ((Kd.R_mono (Kd.R_far (p := ⟨gb276, 1, none⟩) (Kd.R_far (p := ⟨gb276, 0, none⟩) (Kd.R_types HO_9.out BK276.out (by decide)) (fun _ hk => hk.2) (.string t271)) (fun _ hk => hk.2) (.slice Ao99 t272.length co99)) (fun _ h_ => h_.1)))) hb); have n1_ := Aside0.mk (Kd.R_below (rz_ ((Kd.R_mono (Kd.R_far (p := ⟨gb276, 1, none⟩) (Kd.R_far (p := ⟨gb276, 0, none⟩) (Kd.R_types HO_10.out BK276.out (by decide)) (fun _ hk => hk.2) (.string t271)) (fun _ hk => hk.2) (.slice Ao99 t272.length co99)) (fun _ h_ => h_.1)))) hb); have n2_ := Aside0.mk (Kd.V_below (by (with_reducible repeat (first | apply Kd.V_alloc | apply Kd.V_drewN | apply Kd.V_drew)); exact (Kd.V_mono (Kd.V_far (p := ⟨gb276, 1, none⟩) (Kd.V_far (p := ⟨gb276, 0, none⟩) (Kd.V_mono HO_229001.out (fun k_ hk => (⟨hk, hk.2⟩ : _ ∧ k_ ≠ gb276))) (fun _ hk => hk.2) (.string t271)) (fun _ hk => hk.2) (.slice Ao99 t272.length co99)) (fun _ h_ => h_.1))) hb); have n3_ := Aside0.mk (Kd.R_below (rz_ ((Kd.R_mono (Kd.R_far (p := ⟨gb276, 1, none⟩) (Kd.R_far (p := ⟨gb276, 0, none⟩) (Kd.R_types HO_234001.out BK276.out (by decide)) (fun _ hk => hk.2) (.string t271)) (fun _ hk => hk.2) (.slice Ao99 t272.length co99)) (fun _ h_ => h_.1)))) hb); have n4_ := Aside0.mk (Kd.R_below (rz_ ((Kd.R_mono (Kd.R_far (p := ⟨gb276, 1, none⟩) (Kd.R_far (p := ⟨gb276, 0, none⟩) (Kd.R_types HO_258000.out BK276.out (by decide)) (fun _ hk => hk.2) (.string t271)) (fun _ hk => hk.2) (.slice Ao99 t272.length co99)) (fun _ h_ => h_.1)))) hb); have n5_ := Aside0.mk (Kd.V_below (by (with_reducible repeat (first | apply Kd.V_alloc | apply Kd.V_drewN | apply Kd.V_drew)); exact (Kd.V_mono (Kd.V_far (p := ⟨gb276, 1, none⟩) (Kd.V_far (p := ⟨gb276, 0, none⟩) (Kd.V_mono HO268.out (fun k_ hk => (⟨hk, hk.2⟩ : _ ∧ k_ ≠ gb276))) (fun _ hk => hk.2) (.string t271)) (fun _ hk => hk.2) (.slice Ao99 t272.length co99)) (fun _ h_ => h_.1))) hb); have n6_ := Aside0.mk (Kd.V_below (by (with_reducible repeat (first | apply Kd.V_alloc | apply Kd.V_drewN | apply Kd.V_drew)); exact (Kd.V_mono (Kd.V_far (p := ⟨gb276, 1, none⟩) (Kd.V_far (p := ⟨gb276, 0, none⟩) (Kd.V_mono HO274.out (fun k_ hk => (⟨hk, hk.2⟩ : _ ∧ k_ ≠ gb276))) (fun _ hk => hk.2) (.string t271)) (fun _ hk => hk.2) (.slice Ao99 t272.length co99)) (fun _ h_ => h_.1))) hb); have n7_ := Aside0.mk (blk_below (g := gb223) (o := .cells #[.string a0_0, .slice A0_1 l0_1.length c0_1] 24 (0, 0)) (by (with_reducible repeat (first | refine blk_drewN ?_ _ | refine blk_drew ?_ | refine blk_alloc ?_ _)); refine blk_far ?_ NB223_276.out _; (with_reducible repeat (first | refine blk_drewN ?_ _ | refine blk_drew ?_ | refine blk_alloc ?_ _)); refine blk_far ?_ NB223_276.out _; (with_reducible repeat (first | refine blk_drewN ?_ _ | refine blk_drew ?_ | refine blk_alloc ?_ _)); exact BK223.out) hb); have n8_ := Aside0.mk (blk_below (g := gb228) (o := .cells #[.string t224, .slice Ao13 t225.length co13] 24 (0, 0)) (by (with_reducible repeat (first | refine blk_drewN ?_ _ | refine blk_drew ?_ | refine blk_alloc ?_ _)); refine blk_far ?_ NB228_276.out _; (with_reducible repeat (first | refine blk_drewN ?_ _ | refine blk_drew ?_ | refine blk_alloc ?_ _)); refine blk_far ?_ NB228_276.out _; (with_reducible repeat (first | refine blk_drewN ?_ _ | refine blk_drew ?_ | refine blk_alloc ?_ _)); exact BK228.out) hb); have n9_ := Aside0.mk (blk_below (g := gb233) (o := .cells #[.string t229, .slice Ao19 t230.length co19] 30 (0, 0)) (by (with_reducible repeat (first | refine blk_drewN ?_ _ | refine blk_drew ?_ | refine blk_alloc ?_ _)); refine blk_far ?_ NB233_276.out _; (with_reducible repeat (first | refine blk_drewN ?_ _ | refine blk_drew ?_ | refine blk_alloc ?_ _)); refine blk_far ?_ NB233_276.out _; (with_reducible repeat (first | refine blk_drewN ?_ _ | refine blk_drew ?_ | refine blk_alloc ?_ _)); exact BK233.out) hb); have n10_ := Aside0.mk (blk_below (g := gb257) (o := .cells #[.slice Ao77 x258000_40.length co77] 36 (0, 0)) (by (with_reducible repeat (first | refine blk_drewN ?_ _ | refine blk_drew ?_ | refine blk_alloc ?_ _)); refine blk_far ?_ NB257_276.out _; (with_reducible repeat (first | refine blk_drewN ?_ _ | refine blk_drew ?_ | refine blk_alloc ?_ _)); refine blk_far ?_ NB257_276.out _; (with_reducible repeat (first | refine blk_drewN ?_ _ | refine blk_drew ?_ | refine blk_alloc ?_ _)); exact BK257.out) hb); have n11_ := Aside0.mk (blk_below (g := gb270) (o := .cells #[.string t265, .slice Ao85 t266.length co85] 24 (0, 0)) (by (with_reducible repeat (first | refine blk_drewN ?_ _ | refine blk_drew ?_ | refine blk_alloc ?_ _)); refine blk_far ?_ NB270_276.out _; (with_reducible repeat (first | refine blk_drewN ?_ _ | refine blk_drew ?_ | refine blk_alloc ?_ _)); refine blk_far ?_ NB270_276.out _; (with_reducible repeat (first | refine blk_drewN ?_ _ | refine blk_drew ?_ | refine blk_alloc ?_ _)); exact BK270.out) hb); have n12_ := Aside0.mk (blk_below (g := gb276) (o := .cells #[.string t271, .slice Ao99 t272.length co99] 30 (0, 0)) (by (with_reducible repeat (first | refine blk_drewN ?_ _ | refine blk_drew ?_ | refine blk_alloc ?_ _)); refine blk_put (cs := #[.string t271, .slice none 0 0]) ?_ 1 _ rfl; (with_reducible repeat (first | refine blk_drewN ?_ _ | refine blk_drew ?_ | refine blk_alloc ?_ _)); refine blk_put (cs := #[.string (⟨#[]⟩ : ByteArray), .slice none 0 0]) ?_ 0 _ rfl; (with_reducible repeat (first | refine blk_drewN ?_ _ | refine blk_drew ?_ | refine blk_alloc ?_ _)); exact BK276.out) hb); have n13_ := Aside0.mk (below_step (by repeat (first | (with_reducible first | exact HB.out | apply below_alloc | apply pw_below_drewN | apply below_drew1 | refine below_set ?_ GE223.out | refine below_set ?_ GE228.out | refine below_set ?_ GE233.out | refine below_set ?_ GE257.out | refine below_set ?_ GE270.out | refine below_set ?_ GE276.out) | exact HB.out)) hb); clear HO_9; clear HO_10; clear HO_229001; clear HO_234001; clear HO_258000; clear HO268; clear HO274; clear BK223; clear BK228; clear BK233; clear BK257; clear BK270; clear BK276; clear HB; have HO_9 := n0_; have HO_10 := n1_; have HO_229001 := n2_; have HO_234001 := n3_; have HO_258000 := n4_; have HO268 := n5_; have HO274 := n6_; have BK223 := n7_; have BK228 := n8_; have BK233 := n9_; have BK257 := n10_; have BK270 := n11_; have BK276 := n12_; have HB := n13_; clear n0_ n1_ n2_ n3_ n4_ n5_ n6_ n7_ n8_ n9_ n10_ n11_ n12_ n13_; (try clear hb); (try clear hb2); (try clear hk); (try clear hi); have hcz101_0 : w100.cell? ⟨gb270, 0, none⟩ = some (.string t265) := (blk_cell BK270.out 0).trans rfl; have hcz101_1 : w100.cell? ⟨gb270, 1, none⟩ = some (.slice Ao85 t266.length co85) := (blk_cell BK270.out 1).trans rfl; have hfz101_0 := blk_frozen BK270.out 0; have hfz101_1 := blk_frozen BK270.out 1; have hcz102_0 : w100.cell? ⟨gb276, 0, none⟩ = some (.string t271) := (blk_cell BK276.out 0).trans rfl; have hcz102_1 : w100.cell? ⟨gb276, 1, none⟩ = some (.slice Ao99 t272.length co99) := (blk_cell BK276.out 1).trans rfl; have hfz102_0 := blk_frozen BK276.out 0; have hfz102_1 := blk_frozen BK276.out 1) | (go_at_call 13; (with_reducible refine (pollardlaw13_Same.calls kj40 t265 _ _ t266 t271 _ _ t272 true _ ?side1 ?side2 ?side3 ?side4 A66.out).mono ?_); (case side1 => repeat (first | exact (Kd.V_reads' HO268.out).2.2 | (with_reducible refine Kd.C_alloc ?_ _) | (with_reducible refine Kd.C_drewN ?_ _) | (with_reducible refine Kd.C_drew ?_))); (case side2 => exact (Kd.V_reads' HO268.out).2.1); (case side3 => repeat (first | exact (Kd.V_reads' HO274.out).2.2 | (with_reducible refine Kd.C_alloc ?_ _) | (with_reducible refine Kd.C_drewN ?_ _) | (with_reducible refine Kd.C_drew ?_))); (case side4 => exact (Kd.V_reads' HO274.out).2.1); rintro e w103 ⟨rfl, hb⟩; have n0_ := Aside0.mk (Kd.R_below (rz_ HO_9.out) hb); have n1_ := Aside0.mk (Kd.R_below (rz_ HO_10.out) hb); have n2_ := Aside0.mk (Kd.V_below (by (with_reducible repeat (first | apply Kd.V_alloc | apply Kd.V_drewN | apply Kd.V_drew)); exact HO_229001.out) hb); have n3_ := Aside0.mk (Kd.R_below (rz_ HO_234001.out) hb); have n4_ := Aside0.mk (Kd.R_below (rz_ HO_258000.out) hb); have n5_ := Aside0.mk (Kd.V_below (by (with_reducible repeat (first | apply Kd.V_alloc | apply Kd.V_drewN | apply Kd.V_drew)); exact HO268.out) hb); have n6_ := Aside0.mk (Kd.V_below (by (with_reducible repeat (first | apply Kd.V_alloc | apply Kd.V_drewN | apply Kd.V_drew)); exact HO274.out) hb); have n7_ := Aside0.mk (blk_below (g := gb223) (o := .cells #[.string a0_0, .slice A0_1 l0_1.length c0_1] 24 (0, 0)) (kz_ BK223.out) hb); have n8_ := Aside0.mk (blk_below (g := gb228) (o := .cells #[.string t224, .slice Ao13 t225.length co13] 24 (0, 0)) (kz_ BK228.out) hb); have n9_ := Aside0.mk (blk_below (g := gb233) (o := .cells #[.string t229, .slice Ao19 t230.length co19] 30 (0, 0)) (kz_ BK233.out) hb); have n10_ := Aside0.mk (blk_below (g := gb257) (o := .cells #[.slice Ao77 x258000_40.length co77] 36 (0, 0)) (kz_ BK257.out) hb); have n11_ := Aside0.mk (blk_below (g := gb270) (o := .cells #[.string t265, .slice Ao85 t266.length co85] 24 (0, 0)) (kz_ BK270.out) hb); have n12_ := Aside0.mk (blk_below (g := gb276) (o := .cells #[.string t271, .slice Ao99 t272.length co99] 30 (0, 0)) (kz_ BK276.out) hb); have n13_ := Aside0.mk (below_step (by repeat (first | (with_reducible first | exact HB.out | apply below_alloc | apply pw_below_drewN | apply below_drew1 | refine below_set ?_ GE223.out | refine below_set ?_ GE228.out | refine below_set ?_ GE233.out | refine below_set ?_ GE257.out | refine below_set ?_ GE270.out | refine below_set ?_ GE276.out) | exact HB.out)) hb); clear HO_9; clear HO_10; clear HO_229001; clear HO_234001; clear HO_258000; clear HO268; clear HO274; clear BK223; clear BK228; clear BK233; clear BK257; clear BK270; clear BK276; clear HB; have HO_9 := n0_; have HO_10 := n1_; have HO_229001 := n2_; have HO_234001 := n3_; have HO_258000 := n4_; have HO268 := n5_; have HO274 := n6_; have BK223 := n7_; have BK228 := n8_; have BK233 := n9_; have BK257 := n10_; have BK270 := n11_; have BK276 := n12_; have HB := n13_; clear n0_ n1_ n2_ n3_ n4_ n5_ n6_ n7_ n8_ n9_ n10_ n11_ n12_ n13_; (try clear hb); (try clear hb2); (try clear hk); (try clear hi); have hcz104_0 : w103.cell? ⟨gb228, 0, none⟩ = some (.string t224) := (blk_cell BK228.out 0).trans rfl; have hcz104_1 : w103.cell? ⟨gb228, 1, none⟩ = some (.slice Ao13 t225.length co13) := (blk_cell BK228.out 1).trans rfl; have hfz104_0 := blk_frozen BK228.out 0; have hfz104_1 := blk_frozen BK228.out 1; have hcz105_0 : w103.cell? ⟨gb233, 0, none⟩ = some (.string t229) := (blk_cell BK233.out 0).trans rfl; have hcz105_1 : w103.cell? ⟨gb233, 1, none⟩ = some (.slice Ao19 t230.length co19) := (blk_cell BK233.out 1).trans rfl; have hfz105_0 := blk_frozen BK233.out 0; have hfz105_1 := blk_frozen BK233.out 1) | (go_at_call 13; (with_reducible refine (pollardlaw13_Same.calls kj40 t224 _ _ t225 t229 _ _ t230 t279 _ ?side1 ?side2 ?side3 ?side4 A68.out).mono ?_); (case side1 => repeat (first | exact (Kd.V_reads' HO_229001.out).2.2 | (with_reducible refine Kd.C_alloc ?_ _) | (with_reducible refine Kd.C_drewN ?_ _) | (with_reducible refine Kd.C_drew ?_))); (case side2 => exact (Kd.V_reads' HO_229001.out).2.1); (case side3 => repeat (first | exact (Kd.R_reads' HO_234001.out).2.2 | (with_reducible refine Kd.C_alloc ?_ _) | (with_reducible refine Kd.C_drewN ?_ _) | (with_reducible refine Kd.C_drew ?_))); (case side4 => exact (Kd.R_reads' HO_234001.out).2.1); rintro e w106 ⟨rfl, hb⟩; have n0_ := Aside0.mk (Kd.R_below (rz_ HO_9.out) hb); have n1_ := Aside0.mk (Kd.R_below (rz_ HO_10.out) hb); have n2_ := Aside0.mk (Kd.V_below (by (with_reducible repeat (first | apply Kd.V_alloc | apply Kd.V_drewN | apply Kd.V_drew)); exact HO_229001.out) hb); have n3_ := Aside0.mk (Kd.R_below (rz_ HO_234001.out) hb); have n4_ := Aside0.mk (Kd.R_below (rz_ HO_258000.out) hb); have n5_ := Aside0.mk (Kd.V_below (by (with_reducible repeat (first | apply Kd.V_alloc | apply Kd.V_drewN | apply Kd.V_drew)); exact HO268.out) hb); have n6_ := Aside0.mk (Kd.V_below (by (with_reducible repeat (first | apply Kd.V_alloc | apply Kd.V_drewN | apply Kd.V_drew)); exact HO274.out) hb); have n7_ := Aside0.mk (blk_below (g := gb223) (o := .cells #[.string a0_0, .slice A0_1 l0_1.length c0_1] 24 (0, 0)) (kz_ BK223.out) hb); have n8_ := Aside0.mk (blk_below (g := gb228) (o := .cells #[.string t224, .slice Ao13 t225.length co13] 24 (0, 0)) (kz_ BK228.out) hb); have n9_ := Aside0.mk (blk_below (g := gb233) (o := .cells #[.string t229, .slice Ao19 t230.length co19] 30 (0, 0)) (kz_ BK233.out) hb); have n10_ := Aside0.mk (blk_below (g := gb257) (o := .cells #[.slice Ao77 x258000_40.length co77] 36 (0, 0)) (kz_ BK257.out) hb); have n11_ := Aside0.mk (blk_below (g := gb270) (o := .cells #[.string t265, .slice Ao85 t266.length co85] 24 (0, 0)) (kz_ BK270.out) hb); have n12_ := Aside0.mk (blk_below (g := gb276) (o := .cells #[.string t271, .slice Ao99 t272.length co99] 30 (0, 0)) (kz_ BK276.out) hb); have n13_ := Aside0.mk (below_step (by repeat (first | (with_reducible first | exact HB.out | apply below_alloc | apply pw_below_drewN | apply below_drew1 | refine below_set ?_ GE223.out | refine below_set ?_ GE228.out | refine below_set ?_ GE233.out | refine below_set ?_ GE257.out | refine below_set ?_ GE270.out | refine below_set ?_ GE276.out) | exact HB.out)) hb); clear HO_9; clear HO_10; clear HO_229001; clear HO_234001; clear HO_258000; clear HO268; clear HO274; clear BK223; clear BK228; clear BK233; clear BK257; clear BK270; clear BK276; clear HB; have HO_9 := n0_; have HO_10 := n1_; have HO_229001 := n2_; have HO_234001 := n3_; have HO_258000 := n4_; have HO268 := n5_; have HO274 := n6_; have BK223 := n7_; have BK228 := n8_; have BK233 := n9_; have BK257 := n10_; have BK270 := n11_; have BK276 := n12_; have HB := n13_; clear n0_ n1_ n2_ n3_ n4_ n5_ n6_ n7_ n8_ n9_ n10_ n11_ n12_ n13_; (try clear hb); (try clear hb2); (try clear hk); (try clear hi)))
        go_ret
        exact ⟨xz_, by repeat (first | (with_reducible first | exact HB.out | apply below_alloc | apply pw_below_drewN | apply below_drew1 | refine below_set ?_ GE223.out | refine below_set ?_ GE228.out | refine below_set ?_ GE233.out | refine below_set ?_ GE257.out | refine below_set ?_ GE270.out | refine below_set ?_ GE276.out) | exact HB.out)⟩
       · replace c67 := Bool.eq_false_iff.mpr c67
         subst c67
         have H1 := H
         rw [if_neg (show ¬ (false = true) by decide)] at H1
         clear H
         have H := H1
         clear H1
         exact absurd H (by simp)
      · rw [if_neg c65] at H
        exact absurd H (by simp)
     · replace c64 := Bool.eq_false_iff.mpr c64
       subst c64
       have H1 := H
       rw [if_neg (show ¬ (false = true) by decide)] at H1
       clear H
       have H := H1
       clear H1
       exact absurd H (by simp)

end Go.Proofs.Ytgepbdkbleapaaa.M
