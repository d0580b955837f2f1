/- The program's functions as plain functions, and that each call comes to what these tell; written by a program of this session, some contracts by hand. Conditions: none. -/
import Derived.Test.YtgepbdkbleapaaaMx0
import Derived.Test.YtgepbdkbleapaaaMx4
import Derived.Test.YtgepbdkbleapaaaMx7
import Derived.Test.YtgepbdkbleapaaaMx14
namespace Go.Proofs.Ytgepbdkbleapaaa.M
open Go.RowKit Go.Proofs.YtgepbdkbleapaaaW.PrintWords Go.Proofs.YtgepbdkbleapaaaW.PrintLast Go.Proofs.YtgepbdkbleapaaaW.PrintMore
attribute [local go_sem] max2_int min2_int max_two min_two max_three min_three max_four min_four   -- for this text's walks alone
set_option linter.unusedVariables false
set_option linter.unusedSimpArgs false

/-! ### pollardlaw13_awake: function 12 -/
def pollardlaw13_awake.f (k : Nat)  : Option (Bool) := (pollardlaw13_id.f k 97).bind fun t197 => ((refs_Apply.f k (⟨#[104, 101, 97, 100, 115, 47, 109, 97, 105, 110]⟩ : ByteArray) ([] : List (S50)) (([(⟨(⟨#[104, 101, 97, 100, 115, 47, 109, 97, 105, 110]⟩ : ByteArray), (⟨#[]⟩ : ByteArray), t197, false⟩ : S34)] : List (S34)))).bind fun bt201 => ((pollardlaw13_id.f k 98).bind fun t207 => ((refs_Apply.f k bt201.1 bt201.2.1 (([(⟨(⟨#[104, 101, 97, 100, 115, 47, 109, 97, 105, 110]⟩ : ByteArray), (⟨#[]⟩ : ByteArray), t207, false⟩ : S34)] : List (S34)))).bind fun bt211 => (if bt201.2.2 = 0 then ((refs_Get.f k bt201.1 bt201.2.1 (⟨#[104, 101, 97, 100, 115, 47, 109, 97, 105, 110]⟩ : ByteArray)).bind fun t217 => ((pollardlaw13_id.f k 97).bind fun t218 => (if t217.toList = t218.toList then (some (bt211.2.2 == 130)) else (none)))) else (none)))))
theorem pollardlaw13_awake.mono : ∀ k, LeO (pollardlaw13_awake.f k ) (pollardlaw13_awake.f (k + 1) ) := by
 intro  k
 unfold pollardlaw13_awake.f
 repeat' with_reducible first | exact pollardlaw13_id.mono _ _ | exact refs_Apply.mono _ _ _ _ | exact refs_Get.mono _ _ _ _ | exact LeO.refl _ | exact LeO.none _ | refine LeO.ite ?_ ?_ | refine LeO.bind ?_ (fun _ => ?_)
def pollardlaw13_awake.T3 : Bool × List (List Nat × List Nat) := (true, [([], []), ([], []), ([1], [1]), ([2], [2]), ([], []), ([0, 3, 4, 1], [0, 3, 4]), ([5], [5]), ([6], [6]), ([6], [6]), ([], []), ([9, 7, 5, 0, 1, 2, 3, 4, 5, 6, 7, 9], [7, 9]), ([8, 10, 0, 1, 2, 3, 4, 5, 6, 7, 8, 9, 10], [8])])
def pollardlaw13_awake.B3 : List Nat := [0, 0, 2, 6, 0, 31, 63, 127, 127, 0, 767, 2047]
theorem pollardlaw13_awake.tab3 : rtab .any (opsOf Try.f12 3) = pollardlaw13_awake.T3 := by kernel_rfl
theorem pollardlaw13_awake.bits3 : waitsOk pollardlaw13_awake.T3.2 pollardlaw13_awake.B3 = true := by kernel_rfl
def pollardlaw13_awake.T4 : Bool × List (List Nat × List Nat) := (true, [([], []), ([], []), ([1], [1]), ([2], [2]), ([], []), ([0, 3, 4, 1], [0, 3, 4]), ([5], [5]), ([6], [6]), ([6], [6]), ([], []), ([9, 7, 5, 0, 1, 2, 3, 4, 5, 6, 7, 9], [7, 9]), ([8, 10, 0, 1, 2, 3, 4, 5, 6, 7, 8, 9, 10], [8])])
def pollardlaw13_awake.B4 : List Nat := [0, 0, 2, 6, 0, 31, 63, 127, 127, 0, 767, 2047]
theorem pollardlaw13_awake.tab4 : rtab .any (opsOf Try.f12 4) = pollardlaw13_awake.T4 := by kernel_rfl
theorem pollardlaw13_awake.bits4 : waitsOk pollardlaw13_awake.T4.2 pollardlaw13_awake.B4 = true := by kernel_rfl
set_option maxHeartbeats 8000000 in
set_option maxRecDepth 100000 in
theorem pollardlaw13_awake.calls (k : Nat)  (r : Bool) (w : World) (h : pollardlaw13_awake.f k  = some r) :
 Calls Try.prog 12 #[] w fun e w' => e = .returned (.bool r) ∧ Below w.heap.size w w' := by
 have hu24 := Try.underlying24
 have hu34 := Try.underlying34
 have HB := Aside0.mk (Below.refl w.heap.size w)
 have H : ((pollardlaw13_id.f k 97).bind fun t197 => ((refs_Apply.f k (⟨#[104, 101, 97, 100, 115, 47, 109, 97, 105, 110]⟩ : ByteArray) ([] : List (S50)) (([(⟨(⟨#[104, 101, 97, 100, 115, 47, 109, 97, 105, 110]⟩ : ByteArray), (⟨#[]⟩ : ByteArray), t197, false⟩ : S34)] : List (S34)))).bind fun bt201 => ((pollardlaw13_id.f k 98).bind fun t207 => ((refs_Apply.f k bt201.1 bt201.2.1 (([(⟨(⟨#[104, 101, 97, 100, 115, 47, 109, 97, 105, 110]⟩ : ByteArray), (⟨#[]⟩ : ByteArray), t207, false⟩ : S34)] : List (S34)))).bind fun bt211 => (if bt201.2.2 = 0 then ((refs_Get.f k bt201.1 bt201.2.1 (⟨#[104, 101, 97, 100, 115, 47, 109, 97, 105, 110]⟩ : ByteArray)).bind fun t217 => ((pollardlaw13_id.f k 97).bind fun t218 => (if t217.toList = t218.toList then (some (bt211.2.2 == 130)) else (none)))) else (none)))))) = some r := h
 clear h
 replace H := Option.bind_eq_some_iff.mp H
 obtain ⟨t197, A10, H⟩ := H
 try dsimp only at H
 have A1 := Aside0.mk A10
 clear A10
 obtain ⟨y198, hy198⟩ : ∃ y_ : List (S34), y_ = (([(⟨(⟨#[104, 101, 97, 100, 115, 47, 109, 97, 105, 110]⟩ : ByteArray), (⟨#[]⟩ : ByteArray), t197, false⟩ : S34)] : List (S34))) := ⟨_, rfl⟩
 replace H : ((refs_Apply.f k (⟨#[104, 101, 97, 100, 115, 47, 109, 97, 105, 110]⟩ : ByteArray) ([] : List (S50)) y198).bind fun bt201 => ((pollardlaw13_id.f k 98).bind fun t207 => ((refs_Apply.f k bt201.1 bt201.2.1 (([(⟨(⟨#[104, 101, 97, 100, 115, 47, 109, 97, 105, 110]⟩ : ByteArray), (⟨#[]⟩ : ByteArray), t207, false⟩ : S34)] : List (S34)))).bind fun bt211 => (if bt201.2.2 = 0 then ((refs_Get.f k bt201.1 bt201.2.1 (⟨#[104, 101, 97, 100, 115, 47, 109, 97, 105, 110]⟩ : ByteArray)).bind fun t217 => ((pollardlaw13_id.f k 97).bind fun t218 => (if t217.toList = t218.toList then (some (bt211.2.2 == 130)) else (none)))) else (none))))) = some r := by first | (rw [hy198]; with_reducible exact H) | (have H2_ := (Option.bind_some _ _).symm.trans H; rw [hy198]; with_reducible exact H2_) | (have H2_ := (Option.bind_some _ _).symm.trans H; with_reducible exact H2_) | with_reducible exact H | (rw [hy198]; exact H) | exact H
 have Ny198 := Aside0.mk hy198
 clear hy198
 replace H := Option.bind_eq_some_iff.mp H
 obtain ⟨⟨t201, t202, t205⟩, A20, H⟩ := H
 try dsimp only at H
 have A2 := Aside0.mk A20
 clear A20
 replace H := Option.bind_eq_some_iff.mp H
 obtain ⟨t207, A30, H⟩ := H
 try dsimp only at H
 have A3 := Aside0.mk A30
 clear A30
 obtain ⟨y208, hy208⟩ : ∃ y_ : List (S34), y_ = (([(⟨(⟨#[104, 101, 97, 100, 115, 47, 109, 97, 105, 110]⟩ : ByteArray), (⟨#[]⟩ : ByteArray), t207, false⟩ : S34)] : List (S34))) := ⟨_, rfl⟩
 replace H : ((refs_Apply.f k t201 t202 y208).bind fun bt211 => (if t205 = 0 then ((refs_Get.f k t201 t202 (⟨#[104, 101, 97, 100, 115, 47, 109, 97, 105, 110]⟩ : ByteArray)).bind fun t217 => ((pollardlaw13_id.f k 97).bind fun t218 => (if t217.toList = t218.toList then (some (bt211.2.2 == 130)) else (none)))) else (none))) = some r := by first | (rw [hy208]; with_reducible exact H) | (have H2_ := (Option.bind_some _ _).symm.trans H; rw [hy208]; with_reducible exact H2_) | (have H2_ := (Option.bind_some _ _).symm.trans H; with_reducible exact H2_) | with_reducible exact H | (rw [hy208]; exact H) | exact H
 have Ny208 := Aside0.mk hy208
 clear hy208
 replace H := Option.bind_eq_some_iff.mp H
 obtain ⟨⟨t211, t212, t215⟩, A40, H⟩ := H
 try dsimp only at H
 have A4 := Aside0.mk A40
 clear A40
 by_cases c5 : t205 = 0
 ·
  rw [if_pos c5] at H
  have c5b0 : (t205 == 0) = true := beq_iff_eq.mpr c5
  have c5b1 : (t205 != 0) = false := bne_eq_false_iff_eq.mpr c5
  clear c5
  replace H := Option.bind_eq_some_iff.mp H
  obtain ⟨t217, A60, H⟩ := H
  try dsimp only at H
  have A6 := Aside0.mk A60
  clear A60
  replace H := Option.bind_eq_some_iff.mp H
  obtain ⟨t218, A70, H⟩ := H
  try dsimp only at H
  have A7 := Aside0.mk A70
  clear A70
  by_cases c8 : t217.toList = t218.toList
  ·
   rw [if_pos c8] at H
   have c8b0 : (t217.toList == t218.toList) = true := beq_iff_eq.mpr c8
   have c8b1 : (t217.toList != t218.toList) = false := bne_eq_false_iff_eq.mpr c8
   clear c8
   obtain rfl := Option.some.inj H
   go_enter Try.func12, Try.ntmps12
   try go_wp2_with (first | ((with_reducible refine gate_dst (N := 1) rfl ?_); refine box_event ?hg (N := 1) ?hd (cs := #[.string (⟨#[]⟩ : ByteArray), .slice none 0 0]) (t := 24) ?hr ?_; (case hd => rfl); (case hg => rfl); (case hr => first | (go_simp; done) | (go_simp; rfl)); intro gb196 hg w9 hbox hb; have n0_ := Aside0.mk (below_step bz_ hb); have n1_ := Aside0.mk (hbox); have n2_ := Aside0.mk ((by rw [hg]; exact (below_size bz_) : w.heap.size ≤ gb196)); have n3_ := Aside0.mk ((by rw [hg]; exact (below_size bz_) : w.heap.size ≤ gb196)); clear HB; have HB := n0_; have BK196 := n1_; have GW196 := n2_; have GE196 := n3_; clear n0_ n1_ n2_ n3_; clear hb hbox hg; have hcz10_0 : w9.cell? ⟨gb196, 0, none⟩ = some (.string (⟨#[]⟩ : ByteArray)) := (blk_cell BK196.out 0).trans rfl; have hcz10_1 : w9.cell? ⟨gb196, 1, none⟩ = some (.slice none 0 0) := (blk_cell BK196.out 1).trans rfl; have hfz10_0 := blk_frozen BK196.out 0; have hfz10_1 := blk_frozen BK196.out 1))
   have n0_ : Aside0 (((w9.setCell ⟨gb196, 0, none⟩ (.string (⟨#[104, 101, 97, 100, 115, 47, 109, 97, 105, 110]⟩ : ByteArray))).setCell ⟨gb196, 1, none⟩ (.slice none 0 0)).heap[gb196]? = some (.cells #[.string (⟨#[104, 101, 97, 100, 115, 47, 109, 97, 105, 110]⟩ : ByteArray), .slice none 0 0] 24 (0, 0))) := ⟨by (with_reducible repeat (first | refine blk_drewN ?_ _ | refine blk_drew ?_ | refine blk_alloc ?_ _)); refine blk_put (cs := #[.string (⟨#[104, 101, 97, 100, 115, 47, 109, 97, 105, 110]⟩ : ByteArray), .slice none 0 0]) ?_ 1 _ rfl; (with_reducible repeat (first | refine blk_drewN ?_ _ | refine blk_drew ?_ | refine blk_alloc ?_ _)); refine blk_put (cs := #[.string (⟨#[]⟩ : ByteArray), .slice none 0 0]) ?_ 0 _ rfl; (with_reducible repeat (first | refine blk_drewN ?_ _ | refine blk_drew ?_ | refine blk_alloc ?_ _)); exact BK196.out⟩
   have n1_ : Aside0 (Below w.heap.size w ((w9.setCell ⟨gb196, 0, none⟩ (.string (⟨#[104, 101, 97, 100, 115, 47, 109, 97, 105, 110]⟩ : ByteArray))).setCell ⟨gb196, 1, none⟩ (.slice none 0 0))) := ⟨bs1_ GE196.out⟩
   (try clear BK196)
   (try clear HB)
   generalize ((w9.setCell ⟨gb196, 0, none⟩ (.string (⟨#[104, 101, 97, 100, 115, 47, 109, 97, 105, 110]⟩ : ByteArray))).setCell ⟨gb196, 1, none⟩ (.slice none 0 0)) = w11 at n0_ n1_ ⊢
   have BK196 := n0_
   have HB := n1_
   clear n0_ n1_
   have n0_ := Aside0.mk (blk_drew BK196.out)
   have n1_ := Aside0.mk (below_drew1 HB.out)
   clear BK196
   clear HB
   have BK196 := n0_
   have HB := n1_
   clear n0_ n1_
   refine start_ (n := 12) (S := fun w' => w'.cell? ⟨gb196, 0, none⟩ = some (.string (⟨#[104, 101, 97, 100, 115, 47, 109, 97, 105, 110]⟩ : ByteArray)) ∧ w'.cell? ⟨gb196, 1, none⟩ = some (.slice none 0 0)) (ds := []) #[false, false, false, false, false, false, false, false, false, false, false, false] (by kernel_rfl) rfl rfl ⟨(blk_cell BK196.out 0).trans rfl, (blk_cell BK196.out 1).trans rfl⟩ (fun hHeld => ?_); refine with_tabW pollardlaw13_awake.tab3 pollardlaw13_awake.bits3 (fun HT_ HW_ => ?_)
   generalize w11.drew = w12 at BK196 HB hHeld ⊢
   refine pure_ (i := 4) (N := some 13) (v := ?_) (a' := ?_) #[false, false, false, false, true, false, false, false, false, false, false, false] rfl rfl (any_of HT_.out (by kernel_rfl)) (fun _ _ _ h => h) (Or.inl ⟨by rfl, ?_⟩) ?_ ?_
   rotate_left
   · intro w'
     go_simp
     with_reducible rfl
   rotate_left
   · simp only [Act.put, List.setIfInBounds_toArray, List.set_cons_zero, List.set_cons_succ, i64_w, i32_w]
     rfl
   refine take_ (i := 0) (N := some 9) (v := ?_) (a' := ?_) #[true, false, false, false, true, false, false, false, false, false, false, false] rfl rfl (take_ofW HT_.out HW_.out (by kernel_rfl)) (fun _ _ _ h => h) (Or.inl ⟨by rfl, ?_⟩) hHeld ?_ ?_
   rotate_left
   · rintro w' ⟨s0, s1⟩
     go_simp
     with_reducible rfl
   rotate_left
   · simp only [Act.put, List.setIfInBounds_toArray, List.set_cons_zero, List.set_cons_succ, i64_w, i32_w]
     rfl
   refine join_ (σ := Value × Value × Nat) 2 #[true, true, true, true, true, true, true, true, true, true, false, false] (fun s_ => [(10, .string t197), (12, s_.1), (14, .tuple #[.agg #[.string t201, s_.2.1], .int .i64 t205]), (3, .pointer (some ⟨s_.2.2, 0, none⟩)), (11, .agg #[.string (⟨#[104, 101, 97, 100, 115, 47, 109, 97, 105, 110]⟩ : ByteArray), .string (⟨#[]⟩ : ByteArray), .string t197, .bool false]), (8, .tuple #[.agg #[.string t201, s_.2.1], .int .i64 t205]), (15, .agg #[.string t201, s_.2.1]), (16, .int .i64 t205)]) (fun s_ w' => (w'.cell? ⟨gb196, 0, none⟩ = some (.string (⟨#[104, 101, 97, 100, 115, 47, 109, 97, 105, 110]⟩ : ByteArray)) ∧ w'.cell? ⟨gb196, 1, none⟩ = some (.slice none 0 0)) ∧ (Kd.R k34 34 w' w.heap.size (fun _ => True) s_.1 y198) ∧ (Kd.V k50 50 w' w.heap.size (fun k_ => some k_ ≠ (s_.1 : Value).ownBlock ∧ k_ ≠ gb196 ∧ k_ ≠ s_.2.2) s_.2.1 t202) ∧ (w'.heap[gb196]? = some (.cells #[.string (⟨#[104, 101, 97, 100, 115, 47, 109, 97, 105, 110]⟩ : ByteArray), .slice none 0 0] 24 (0, 0))) ∧ (w'.heap[s_.2.2]? = some (.cells #[.string (⟨#[]⟩ : ByteArray), .slice none 0 0] 24 (0, 0))) ∧ (w.heap.size ≤ s_.2.2) ∧ (w.heap.size ≤ s_.2.2) ∧ (gb196 ≠ s_.2.2) ∧ (s_.2.2 ≠ gb196) ∧ (Below w.heap.size w w')) ?_ ?_
   rotate_left
   ·
    intro hCont
    refine two_ (i := 1) (j := 9) (Ni := some 10) (Nj := some 3) #[true, true, false, false, true, false, false, false, false, false, false, false] #[true, false, false, false, true, false, false, false, false, true, false, false] rfl rfl rfl rfl (two_of HT_.out (by kernel_rfl)) (by decide) (by decide) (fun K hK => ?_) (fun K hK => ?_)
    ·
     skip
     refine goes_ Try.func14 (by kernel_rfl) rfl #[.int .u8 97] (by rfl) rfl rfl (by (try simp only [List.map_toArray, List.map_cons, List.map_nil]); first | done | rfl | (simp only [List.length_drop, List.length_take]; rfl)) ?_
     with_reducible refine (pollardlaw13_id.calls k 97 t197 _ A1.out).mono ?_
     rintro e w13 ⟨rfl, hb⟩
     refine ⟨_, rfl, ?_⟩
     have n0_ := Aside0.mk (blk_below (g := gb196) (o := .cells #[.string (⟨#[104, 101, 97, 100, 115, 47, 109, 97, 105, 110]⟩ : ByteArray), .slice none 0 0] 24 (0, 0)) (kz_ BK196.out) hb)
     have n1_ := Aside0.mk (below_step (bs1_ GE196.out) hb)
     clear BK196
     clear HB
     have BK196 := n0_
     have HB := n1_
     clear n0_ n1_
     (try clear hb)
     (try clear hb2)
     (try clear hk)
     (try clear hi)
     refine hK.out _ _ ⟨(blk_cell BK196.out 0).trans rfl, (blk_cell BK196.out 1).trans rfl⟩ (fun hHeld => ?_)
     clear hK K
     refine norm_ (a' := ?_) ?_ ?_
     rotate_left
     · show Act.put _ (some 10) _ = _
       simp only [Act.put, List.setIfInBounds_toArray, List.set_cons_zero, List.set_cons_succ, i64_w, i32_w]
       rfl
     refine pure_ (i := 2) (N := some 11) (v := ?_) (a' := ?_) #[true, true, true, false, true, false, false, false, false, false, false, false] rfl rfl (any_of HT_.out (by kernel_rfl)) (fun _ _ _ h => h) (Or.inl ⟨by rfl, ?_⟩) ?_ ?_
     rotate_left
     · intro w'
       go_simp
       with_reducible rfl
     rotate_left
     · simp only [Act.put, List.setIfInBounds_toArray, List.set_cons_zero, List.set_cons_succ, i64_w, i32_w]
       rfl
     refine two_ (i := 3) (j := 9) (Ni := some 12) (Nj := some 3) #[true, true, true, true, true, false, false, false, false, false, false, false] #[true, true, true, false, true, false, false, false, false, true, false, false] rfl rfl rfl rfl (two_of HT_.out (by kernel_rfl)) (by decide) (by decide) (fun K hK => ?_) (fun K hK => ?_)
     ·
      skip
      refine Kd.R_lit_step k34 _ 34 ?hg (N := 12) ?hd (xs := ([(⟨(⟨#[104, 101, 97, 100, 115, 47, 109, 97, 105, 110]⟩ : ByteArray), (⟨#[]⟩ : ByteArray), t197, false⟩ : S34)] : List (S34))) (inner := [.string (⟨#[104, 101, 97, 100, 115, 47, 109, 97, 105, 110]⟩ : ByteArray), .string (⟨#[]⟩ : ByteArray), .string t197, .bool false]) (ok := fun _ => True) (okp := fun _ => True) ?hr ?hp (fun _ hk => hk) trivial (Below.refl _ _) (Nat.le_refl _) (by simp) ?_; (case hd => rfl); (case hg => rfl); (case hr => first | (go_simp; done) | (go_simp; rfl)); (case hp => exact (Reps.c4 (show Kd.M k34 _ _ _ (⟨(⟨#[104, 101, 97, 100, 115, 47, 109, 97, 105, 110]⟩ : ByteArray), (⟨#[]⟩ : ByteArray), t197, false⟩ : S34) [.string (⟨#[104, 101, 97, 100, 115, 47, 109, 97, 105, 110]⟩ : ByteArray), .string (⟨#[]⟩ : ByteArray), .string t197, .bool false] from (k34_mkM _ _ _ (⟨(⟨#[104, 101, 97, 100, 115, 47, 109, 97, 105, 110]⟩ : ByteArray), (⟨#[]⟩ : ByteArray), t197, false⟩ : S34) )) (Reps.none _ _)))
      intro v199 w14 ho15 hb hg_ hnew_
      clear hg_ hnew_
      (first | rw [← Ny198.out] at ho15 | (simp only [Int.reduceToNat] at ho15; rw [← Ny198.out] at ho15))
      have n0_ := Aside0.mk (Kd.R_lower ho15 (below_size (bs1_ GE196.out)))
      have n1_ := Aside0.mk (blk_below (g := gb196) (o := .cells #[.string (⟨#[104, 101, 97, 100, 115, 47, 109, 97, 105, 110]⟩ : ByteArray), .slice none 0 0] 24 (0, 0)) (kz_ BK196.out) hb)
      have n2_ := Aside0.mk (below_step (bs1_ GE196.out) hb)
      clear BK196
      clear HB
      have HO200 := n0_
      have BK196 := n1_
      have HB := n2_
      clear n0_ n1_ n2_
      clear hb ho15
      obtain ⟨Ao16, co16, eo16⟩ := Kd.R_slice HO200.out
      (first | subst eo16 | (injection eo16 with f1_ f2_ f3_; have f4_ := f1_.symm; have f5_ := f3_.symm; clear f1_ f2_ f3_; subst f4_; subst f5_))
      refine hK.out _ _ ⟨(blk_cell BK196.out 0).trans rfl, (blk_cell BK196.out 1).trans rfl⟩ (fun hHeld => ?_)
      clear hK K
      refine norm_ (a' := ?_) ?_ ?_
      rotate_left
      · show Act.put _ (some 12) _ = _
        simp only [Act.put, List.setIfInBounds_toArray, List.set_cons_zero, List.set_cons_succ, i64_w, i32_w]
        rfl
      refine two_ (i := 5) (j := 9) (Ni := some 14) (Nj := some 3) #[true, true, true, true, true, true, false, false, false, false, false, false] #[true, true, true, true, true, false, false, false, false, true, false, false] rfl rfl rfl rfl (two_of HT_.out (by kernel_rfl)) (by decide) (by decide) (fun K hK => ?_) (fun K hK => ?_)
      ·
       skip
       refine goes_ Try.func8 (by kernel_rfl) rfl #[.agg #[.string (⟨#[104, 101, 97, 100, 115, 47, 109, 97, 105, 110]⟩ : ByteArray), .slice none 0 0], .slice Ao16 y198.length co16, .func (.func 30) #[] #[]] (by rfl) rfl rfl (by (try simp only [List.map_toArray, List.map_cons, List.map_nil]); first | done | rfl | (simp only [List.length_drop, List.length_take]; rfl)) ?_
       refine (refs_Apply.calls k (⟨#[104, 101, 97, 100, 115, 47, 109, 97, 105, 110]⟩ : ByteArray) (fun k_ => False) _ _ ([] : List (S50)) _ _ y198 t201 t202 t205 _ ?side1 ?side2 ?side3 A2.out).mono ?_
       (case side1 => exact Kd.V_nil _ _ _ _ _)
       (case side2 => repeat (first | exact (Kd.R_reads' HO200.out).2.2 | (with_reducible refine Kd.C_alloc ?_ _) | (with_reducible refine Kd.C_drewN ?_ _) | (with_reducible refine Kd.C_drew ?_)))
       (case side3 => exact (Kd.R_reads' HO200.out).2.1)
       rintro e w17 ⟨v203, rfl, ho0, hb⟩
       refine ⟨_, rfl, ?_⟩
       have n0_ := Aside0.mk (Kd.R_below (rz_ HO200.out) hb)
       have n1_ := Aside0.mk (Kd.V_lower (Kd.V_mono (ok' := fun k_ => some k_ ≠ (.slice Ao16 y198.length co16 : Value).ownBlock ∧ k_ ≠ gb196) ho0 (fun k_ hk_ => ⟨Or.elim hk_ (fun hs_ => (hs_).elim) (fun hn_ => (Kd.fresh' (Kd.R_lt (rz_ HO200.out)) k_ hn_)), Or.elim hk_ (fun hs_ => (hs_).elim) (fun hn_ => (Kd.freshB (g := gb196) (o := .cells #[.string (⟨#[104, 101, 97, 100, 115, 47, 109, 97, 105, 110]⟩ : ByteArray), .slice none 0 0] 24 (0, 0)) (kz_ BK196.out) k_ hn_))⟩)) (below_size (bs1_ GE196.out)))
       have n2_ := Aside0.mk (blk_below (g := gb196) (o := .cells #[.string (⟨#[104, 101, 97, 100, 115, 47, 109, 97, 105, 110]⟩ : ByteArray), .slice none 0 0] 24 (0, 0)) (kz_ BK196.out) hb)
       have n3_ := Aside0.mk (below_step (bs1_ GE196.out) hb)
       clear HO200
       clear BK196
       clear HB
       have HO200 := n0_
       have HO204 := n1_
       have BK196 := n2_
       have HB := n3_
       clear n0_ n1_ n2_ n3_
       (try clear hb)
       (try clear hb2)
       (try clear hk)
       (try clear hi)
       (try clear ho0)
       refine hK.out _ _ ⟨(blk_cell BK196.out 0).trans rfl, (blk_cell BK196.out 1).trans rfl⟩ (fun hHeld => ?_)
       clear hK K
       refine norm_ (a' := ?_) ?_ ?_
       rotate_left
       · show Act.put _ (some 14) _ = _
         simp only [Act.put, List.setIfInBounds_toArray, List.set_cons_zero, List.set_cons_succ, i64_w, i32_w]
         rfl
       refine pure_ (i := 6) (N := some 8) (v := ?_) (a' := ?_) #[true, true, true, true, true, true, true, false, false, false, false, false] rfl rfl (any_of HT_.out (by kernel_rfl)) (fun _ _ _ h => h) (Or.inl ⟨by rfl, ?_⟩) ?_ ?_
       rotate_left
       · intro w'
         go_simp
         with_reducible rfl
       rotate_left
       · simp only [Act.put, List.setIfInBounds_toArray, List.set_cons_zero, List.set_cons_succ, i64_w, i32_w]
         rfl
       refine pure_ (i := 7) (N := some 15) (v := ?_) (a' := ?_) #[true, true, true, true, true, true, true, true, false, false, false, false] rfl rfl (any_of HT_.out (by kernel_rfl)) (fun _ _ _ h => h) (Or.inl ⟨by rfl, ?_⟩) ?_ ?_
       rotate_left
       · intro w'
         go_simp
         with_reducible rfl
       rotate_left
       · simp only [Act.put, List.setIfInBounds_toArray, List.set_cons_zero, List.set_cons_succ, i64_w, i32_w]
         rfl
       refine pure_ (i := 8) (N := some 16) (v := ?_) (a' := ?_) #[true, true, true, true, true, true, true, true, true, false, false, false] rfl rfl (any_of HT_.out (by kernel_rfl)) (fun _ _ _ h => h) (Or.inl ⟨by rfl, ?_⟩) ?_ ?_
       rotate_left
       · intro w'
         go_simp
         with_reducible rfl
       rotate_left
       · simp only [Act.put, List.setIfInBounds_toArray, List.set_cons_zero, List.set_cons_succ, i64_w, i32_w]
         rfl
       refine one_ (i := 9) (N := some 3) #[true, true, true, true, true, true, true, true, true, true, false, false] rfl rfl (one_of HT_.out (by kernel_rfl)) (by decide) (fun K hK => ?_)
       refine box_step ?hg (N := 3) ?hd (cs := #[.string (⟨#[]⟩ : ByteArray), .slice none 0 0]) (t := 24) ?hr ?_; (case hd => rfl); (case hg => rfl); (case hr => first | (go_simp; done) | (go_simp; rfl))
       intro gb206 hg w18 hbox hb
       have n0_ := Aside0.mk (Kd.R_below (rz_ HO200.out) hb)
       have n1_ := Aside0.mk (Kd.V_below (Kd.V_elderB (by (with_reducible repeat (first | apply Kd.V_alloc | apply Kd.V_drewN | apply Kd.V_drew)); exact HO204.out) gb206 (Nat.le_of_eq hg.symm)) hb)
       have n2_ := Aside0.mk (blk_below (g := gb196) (o := .cells #[.string (⟨#[104, 101, 97, 100, 115, 47, 109, 97, 105, 110]⟩ : ByteArray), .slice none 0 0] 24 (0, 0)) (kz_ BK196.out) hb)
       have n3_ := Aside0.mk (below_step (bs1_ GE196.out) hb)
       have n4_ := Aside0.mk (hbox)
       have n5_ := Aside0.mk ((by rw [hg]; exact (below_size (bs1_ GE196.out)) : w.heap.size ≤ gb206))
       have n6_ := Aside0.mk ((by rw [hg]; exact (below_size (bs1_ GE196.out)) : w.heap.size ≤ gb206))
       have n7_ := Aside0.mk ((by rw [hg]; exact Nat.ne_of_lt (blk_lt (g := gb196) (o := .cells #[.string (⟨#[104, 101, 97, 100, 115, 47, 109, 97, 105, 110]⟩ : ByteArray), .slice none 0 0] 24 (0, 0)) (kz_ BK196.out)) : gb196 ≠ gb206))
       have n8_ := Aside0.mk ((by rw [hg]; exact Nat.ne_of_gt (blk_lt (g := gb196) (o := .cells #[.string (⟨#[104, 101, 97, 100, 115, 47, 109, 97, 105, 110]⟩ : ByteArray), .slice none 0 0] 24 (0, 0)) (kz_ BK196.out)) : gb206 ≠ gb196))
       clear HO200
       clear HO204
       clear BK196
       clear HB
       have HO200 := n0_
       have HO204 := n1_
       have BK196 := n2_
       have HB := n3_
       have BK206 := n4_
       have GW206 := n5_
       have GE206 := n6_
       have NB196_206 := n7_
       have NB206_196 := n8_
       clear n0_ n1_ n2_ n3_ n4_ n5_ n6_ n7_ n8_
       clear hb hbox hg
       refine hK.out _ _ ⟨(blk_cell BK196.out 0).trans rfl, (blk_cell BK196.out 1).trans rfl⟩ (fun hHeld => ?_)
       clear hK K
       refine norm_ (a' := ?_) ?_ ?_
       rotate_left
       · show Act.put _ (some 3) _ = _
         simp only [Act.put, List.setIfInBounds_toArray, List.set_cons_zero, List.set_cons_succ, i64_w, i32_w]
         rfl
       exact norm_ (by simp only [putAll, Act.put, List.setIfInBounds_toArray, List.set_cons_zero, List.set_cons_succ]) (hCont (.slice Ao16 y198.length co16, v203, gb206) _ ⟨hHeld, (rz_ HO200.out), (by (with_reducible repeat (first | apply Kd.V_alloc | apply Kd.V_drewN | apply Kd.V_drew)); exact Kd.V_mono HO204.out (fun _ hk => ⟨hk.1.1, ⟨hk.1.2, hk.2⟩⟩)), (kz_ BK196.out), (kz_ BK206.out), GW206.out, GE206.out, NB196_206.out, NB206_196.out, (bs2_ GE196.out GE206.out)⟩)
      ·
       skip
       refine box_step ?hg (N := 3) ?hd (cs := #[.string (⟨#[]⟩ : ByteArray), .slice none 0 0]) (t := 24) ?hr ?_; (case hd => rfl); (case hg => rfl); (case hr => first | (go_simp; done) | (go_simp; rfl))
       intro gb206 hg w16 hbox hb
       have n0_ := Aside0.mk (Kd.R_below (rz_ HO200.out) hb)
       have n1_ := Aside0.mk (blk_below (g := gb196) (o := .cells #[.string (⟨#[104, 101, 97, 100, 115, 47, 109, 97, 105, 110]⟩ : ByteArray), .slice none 0 0] 24 (0, 0)) (kz_ BK196.out) hb)
       have n2_ := Aside0.mk (below_step (bs1_ GE196.out) hb)
       have n3_ := Aside0.mk (hbox)
       have n4_ := Aside0.mk ((by rw [hg]; exact (below_size (bs1_ GE196.out)) : w.heap.size ≤ gb206))
       have n5_ := Aside0.mk ((by rw [hg]; exact (below_size (bs1_ GE196.out)) : w.heap.size ≤ gb206))
       have n6_ := Aside0.mk ((by rw [hg]; exact Nat.ne_of_lt (blk_lt (g := gb196) (o := .cells #[.string (⟨#[104, 101, 97, 100, 115, 47, 109, 97, 105, 110]⟩ : ByteArray), .slice none 0 0] 24 (0, 0)) (kz_ BK196.out)) : gb196 ≠ gb206))
       have n7_ := Aside0.mk ((by rw [hg]; exact Nat.ne_of_gt (blk_lt (g := gb196) (o := .cells #[.string (⟨#[104, 101, 97, 100, 115, 47, 109, 97, 105, 110]⟩ : ByteArray), .slice none 0 0] 24 (0, 0)) (kz_ BK196.out)) : gb206 ≠ gb196))
       clear HO200
       clear BK196
       clear HB
       have HO200 := n0_
       have BK196 := n1_
       have HB := n2_
       have BK206 := n3_
       have GW206 := n4_
       have GE206 := n5_
       have NB196_206 := n6_
       have NB206_196 := n7_
       clear n0_ n1_ n2_ n3_ n4_ n5_ n6_ n7_
       clear hb hbox hg
       obtain ⟨Ao17, co17, eo17⟩ := Kd.R_slice HO200.out
       (first | subst eo17 | (injection eo17 with f1_ f2_ f3_; have f4_ := f1_.symm; have f5_ := f3_.symm; clear f1_ f2_ f3_; subst f4_; subst f5_))
       refine hK.out _ _ ⟨(blk_cell BK196.out 0).trans rfl, (blk_cell BK196.out 1).trans rfl⟩ (fun hHeld => ?_)
       clear hK K
       refine norm_ (a' := ?_) ?_ ?_
       rotate_left
       · show Act.put _ (some 3) _ = _
         simp only [Act.put, List.setIfInBounds_toArray, List.set_cons_zero, List.set_cons_succ, i64_w, i32_w]
         rfl
       refine one_ (i := 5) (N := some 14) #[true, true, true, true, true, true, false, false, false, true, false, false] rfl rfl (one_of HT_.out (by kernel_rfl)) (by decide) (fun K hK => ?_)
       refine goes_ Try.func8 (by kernel_rfl) rfl #[.agg #[.string (⟨#[104, 101, 97, 100, 115, 47, 109, 97, 105, 110]⟩ : ByteArray), .slice none 0 0], .slice Ao17 y198.length co17, .func (.func 30) #[] #[]] (by rfl) rfl rfl (by (try simp only [List.map_toArray, List.map_cons, List.map_nil]); first | done | rfl | (simp only [List.length_drop, List.length_take]; rfl)) ?_
       refine (refs_Apply.calls k (⟨#[104, 101, 97, 100, 115, 47, 109, 97, 105, 110]⟩ : ByteArray) (fun k_ => False) _ _ ([] : List (S50)) _ _ y198 t201 t202 t205 _ ?side1 ?side2 ?side3 A2.out).mono ?_
       (case side1 => exact Kd.V_nil _ _ _ _ _)
       (case side2 => repeat (first | exact (Kd.R_reads' HO200.out).2.2 | (with_reducible refine Kd.C_alloc ?_ _) | (with_reducible refine Kd.C_drewN ?_ _) | (with_reducible refine Kd.C_drew ?_)))
       (case side3 => exact (Kd.R_reads' HO200.out).2.1)
       rintro e w18 ⟨v203, rfl, ho0, hb⟩
       refine ⟨_, rfl, ?_⟩
       have n0_ := Aside0.mk (Kd.R_below (rz_ HO200.out) hb)
       have n1_ := Aside0.mk (Kd.V_lower (Kd.V_mono (ok' := fun k_ => some k_ ≠ (.slice Ao17 y198.length co17 : Value).ownBlock ∧ k_ ≠ gb196 ∧ k_ ≠ gb206) ho0 (fun k_ hk_ => ⟨Or.elim hk_ (fun hs_ => (hs_).elim) (fun hn_ => (Kd.fresh' (Kd.R_lt (rz_ HO200.out)) k_ hn_)), Or.elim hk_ (fun hs_ => (hs_).elim) (fun hn_ => (Kd.freshB (g := gb196) (o := .cells #[.string (⟨#[104, 101, 97, 100, 115, 47, 109, 97, 105, 110]⟩ : ByteArray), .slice none 0 0] 24 (0, 0)) (kz_ BK196.out) k_ hn_)), Or.elim hk_ (fun hs_ => (hs_).elim) (fun hn_ => (Kd.freshB (g := gb206) (o := .cells #[.string (⟨#[]⟩ : ByteArray), .slice none 0 0] 24 (0, 0)) (kz_ BK206.out) k_ hn_))⟩)) (below_size (bs2_ GE196.out GE206.out)))
       have n2_ := Aside0.mk (blk_below (g := gb196) (o := .cells #[.string (⟨#[104, 101, 97, 100, 115, 47, 109, 97, 105, 110]⟩ : ByteArray), .slice none 0 0] 24 (0, 0)) (kz_ BK196.out) hb)
       have n3_ := Aside0.mk (blk_below (g := gb206) (o := .cells #[.string (⟨#[]⟩ : ByteArray), .slice none 0 0] 24 (0, 0)) (kz_ BK206.out) hb)
       have n4_ := Aside0.mk (below_step (bs2_ GE196.out GE206.out) hb)
       clear HO200
       clear BK196
       clear BK206
       clear HB
       have HO200 := n0_
       have HO204 := n1_
       have BK196 := n2_
       have BK206 := n3_
       have HB := n4_
       clear n0_ n1_ n2_ n3_ n4_
       (try clear hb)
       (try clear hb2)
       (try clear hk)
       (try clear hi)
       (try clear ho0)
       refine hK.out _ _ ⟨(blk_cell BK196.out 0).trans rfl, (blk_cell BK196.out 1).trans rfl⟩ (fun hHeld => ?_)
       clear hK K
       refine norm_ (a' := ?_) ?_ ?_
       rotate_left
       · show Act.put _ (some 14) _ = _
         simp only [Act.put, List.setIfInBounds_toArray, List.set_cons_zero, List.set_cons_succ, i64_w, i32_w]
         rfl
       refine pure_ (i := 6) (N := some 8) (v := ?_) (a' := ?_) #[true, true, true, true, true, true, true, false, false, true, false, false] rfl rfl (any_of HT_.out (by kernel_rfl)) (fun _ _ _ h => h) (Or.inl ⟨by rfl, ?_⟩) ?_ ?_
       rotate_left
       · intro w'
         go_simp
         with_reducible rfl
       rotate_left
       · simp only [Act.put, List.setIfInBounds_toArray, List.set_cons_zero, List.set_cons_succ, i64_w, i32_w]
         rfl
       refine pure_ (i := 7) (N := some 15) (v := ?_) (a' := ?_) #[true, true, true, true, true, true, true, true, false, true, false, false] rfl rfl (any_of HT_.out (by kernel_rfl)) (fun _ _ _ h => h) (Or.inl ⟨by rfl, ?_⟩) ?_ ?_
       rotate_left
       · intro w'
         go_simp
         with_reducible rfl
       rotate_left
       · simp only [Act.put, List.setIfInBounds_toArray, List.set_cons_zero, List.set_cons_succ, i64_w, i32_w]
         rfl
       refine pure_ (i := 8) (N := some 16) (v := ?_) (a' := ?_) #[true, true, true, true, true, true, true, true, true, true, false, false] rfl rfl (any_of HT_.out (by kernel_rfl)) (fun _ _ _ h => h) (Or.inl ⟨by rfl, ?_⟩) ?_ ?_
       rotate_left
       · intro w'
         go_simp
         with_reducible rfl
       rotate_left
       · simp only [Act.put, List.setIfInBounds_toArray, List.set_cons_zero, List.set_cons_succ, i64_w, i32_w]
         rfl
       exact norm_ (by simp only [putAll, Act.put, List.setIfInBounds_toArray, List.set_cons_zero, List.set_cons_succ]) (hCont (.slice Ao17 y198.length co17, v203, gb206) _ ⟨hHeld, (rz_ HO200.out), (by (with_reducible repeat (first | apply Kd.V_alloc | apply Kd.V_drewN | apply Kd.V_drew)); exact HO204.out), (kz_ BK196.out), (kz_ BK206.out), GW206.out, GE206.out, NB196_206.out, NB206_196.out, (bs2_ GE196.out GE206.out)⟩)
     ·
      skip
      refine box_step ?hg (N := 3) ?hd (cs := #[.string (⟨#[]⟩ : ByteArray), .slice none 0 0]) (t := 24) ?hr ?_; (case hd => rfl); (case hg => rfl); (case hr => first | (go_simp; done) | (go_simp; rfl))
      intro gb206 hg w14 hbox hb
      have n0_ := Aside0.mk (blk_below (g := gb196) (o := .cells #[.string (⟨#[104, 101, 97, 100, 115, 47, 109, 97, 105, 110]⟩ : ByteArray), .slice none 0 0] 24 (0, 0)) (kz_ BK196.out) hb)
      have n1_ := Aside0.mk (below_step (bs1_ GE196.out) hb)
      have n2_ := Aside0.mk (hbox)
      have n3_ := Aside0.mk ((by rw [hg]; exact (below_size (bs1_ GE196.out)) : w.heap.size ≤ gb206))
      have n4_ := Aside0.mk ((by rw [hg]; exact (below_size (bs1_ GE196.out)) : w.heap.size ≤ gb206))
      have n5_ := Aside0.mk ((by rw [hg]; exact Nat.ne_of_lt (blk_lt (g := gb196) (o := .cells #[.string (⟨#[104, 101, 97, 100, 115, 47, 109, 97, 105, 110]⟩ : ByteArray), .slice none 0 0] 24 (0, 0)) (kz_ BK196.out)) : gb196 ≠ gb206))
      have n6_ := Aside0.mk ((by rw [hg]; exact Nat.ne_of_gt (blk_lt (g := gb196) (o := .cells #[.string (⟨#[104, 101, 97, 100, 115, 47, 109, 97, 105, 110]⟩ : ByteArray), .slice none 0 0] 24 (0, 0)) (kz_ BK196.out)) : gb206 ≠ gb196))
      clear BK196
      clear HB
      have BK196 := n0_
      have HB := n1_
      have BK206 := n2_
      have GW206 := n3_
      have GE206 := n4_
      have NB196_206 := n5_
      have NB206_196 := n6_
      clear n0_ n1_ n2_ n3_ n4_ n5_ n6_
      clear hb hbox hg
      refine hK.out _ _ ⟨(blk_cell BK196.out 0).trans rfl, (blk_cell BK196.out 1).trans rfl⟩ (fun hHeld => ?_)
      clear hK K
      refine norm_ (a' := ?_) ?_ ?_
      rotate_left
      · show Act.put _ (some 3) _ = _
        simp only [Act.put, List.setIfInBounds_toArray, List.set_cons_zero, List.set_cons_succ, i64_w, i32_w]
        rfl
      refine one_ (i := 3) (N := some 12) #[true, true, true, true, true, false, false, false, false, true, false, false] rfl rfl (one_of HT_.out (by kernel_rfl)) (by decide) (fun K hK => ?_)
      refine Kd.R_lit_step k34 _ 34 ?hg (N := 12) ?hd (xs := ([(⟨(⟨#[104, 101, 97, 100, 115, 47, 109, 97, 105, 110]⟩ : ByteArray), (⟨#[]⟩ : ByteArray), t197, false⟩ : S34)] : List (S34))) (inner := [.string (⟨#[104, 101, 97, 100, 115, 47, 109, 97, 105, 110]⟩ : ByteArray), .string (⟨#[]⟩ : ByteArray), .string t197, .bool false]) (ok := fun _ => True) (okp := fun _ => True) ?hr ?hp (fun _ hk => hk) trivial (Below.refl _ _) (Nat.le_refl _) (by simp) ?_; (case hd => rfl); (case hg => rfl); (case hr => first | (go_simp; done) | (go_simp; rfl)); (case hp => exact (Reps.c4 (show Kd.M k34 _ _ _ (⟨(⟨#[104, 101, 97, 100, 115, 47, 109, 97, 105, 110]⟩ : ByteArray), (⟨#[]⟩ : ByteArray), t197, false⟩ : S34) [.string (⟨#[104, 101, 97, 100, 115, 47, 109, 97, 105, 110]⟩ : ByteArray), .string (⟨#[]⟩ : ByteArray), .string t197, .bool false] from (k34_mkM _ _ _ (⟨(⟨#[104, 101, 97, 100, 115, 47, 109, 97, 105, 110]⟩ : ByteArray), (⟨#[]⟩ : ByteArray), t197, false⟩ : S34) )) (Reps.none _ _)))
      intro v199 w15 ho16 hb hg_ hnew_
      clear hg_ hnew_
      (first | rw [← Ny198.out] at ho16 | (simp only [Int.reduceToNat] at ho16; rw [← Ny198.out] at ho16))
      have n0_ := Aside0.mk (Kd.R_lower ho16 (below_size (bs2_ GE196.out GE206.out)))
      have n1_ := Aside0.mk (blk_below (g := gb196) (o := .cells #[.string (⟨#[104, 101, 97, 100, 115, 47, 109, 97, 105, 110]⟩ : ByteArray), .slice none 0 0] 24 (0, 0)) (kz_ BK196.out) hb)
      have n2_ := Aside0.mk (blk_below (g := gb206) (o := .cells #[.string (⟨#[]⟩ : ByteArray), .slice none 0 0] 24 (0, 0)) (kz_ BK206.out) hb)
      have n3_ := Aside0.mk (below_step (bs2_ GE196.out GE206.out) hb)
      clear BK196
      clear BK206
      clear HB
      have HO200 := n0_
      have BK196 := n1_
      have BK206 := n2_
      have HB := n3_
      clear n0_ n1_ n2_ n3_
      clear hb ho16
      obtain ⟨Ao17, co17, eo17⟩ := Kd.R_slice HO200.out
      (first | subst eo17 | (injection eo17 with f1_ f2_ f3_; have f4_ := f1_.symm; have f5_ := f3_.symm; clear f1_ f2_ f3_; subst f4_; subst f5_))
      refine hK.out _ _ ⟨(blk_cell BK196.out 0).trans rfl, (blk_cell BK196.out 1).trans rfl⟩ (fun hHeld => ?_)
      clear hK K
      refine norm_ (a' := ?_) ?_ ?_
      rotate_left
      · show Act.put _ (some 12) _ = _
        simp only [Act.put, List.setIfInBounds_toArray, List.set_cons_zero, List.set_cons_succ, i64_w, i32_w]
        rfl
      refine one_ (i := 5) (N := some 14) #[true, true, true, true, true, true, false, false, false, true, false, false] rfl rfl (one_of HT_.out (by kernel_rfl)) (by decide) (fun K hK => ?_)
      refine goes_ Try.func8 (by kernel_rfl) rfl #[.agg #[.string (⟨#[104, 101, 97, 100, 115, 47, 109, 97, 105, 110]⟩ : ByteArray), .slice none 0 0], .slice Ao17 y198.length co17, .func (.func 30) #[] #[]] (by rfl) rfl rfl (by (try simp only [List.map_toArray, List.map_cons, List.map_nil]); first | done | rfl | (simp only [List.length_drop, List.length_take]; rfl)) ?_
      refine (refs_Apply.calls k (⟨#[104, 101, 97, 100, 115, 47, 109, 97, 105, 110]⟩ : ByteArray) (fun k_ => False) _ _ ([] : List (S50)) _ _ y198 t201 t202 t205 _ ?side1 ?side2 ?side3 A2.out).mono ?_
      (case side1 => exact Kd.V_nil _ _ _ _ _)
      (case side2 => repeat (first | exact (Kd.R_reads' HO200.out).2.2 | (with_reducible refine Kd.C_alloc ?_ _) | (with_reducible refine Kd.C_drewN ?_ _) | (with_reducible refine Kd.C_drew ?_)))
      (case side3 => exact (Kd.R_reads' HO200.out).2.1)
      rintro e w18 ⟨v203, rfl, ho0, hb⟩
      refine ⟨_, rfl, ?_⟩
      have n0_ := Aside0.mk (Kd.R_below (rz_ HO200.out) hb)
      have n1_ := Aside0.mk (Kd.V_lower (Kd.V_mono (ok' := fun k_ => some k_ ≠ (.slice Ao17 y198.length co17 : Value).ownBlock ∧ k_ ≠ gb196 ∧ k_ ≠ gb206) ho0 (fun k_ hk_ => ⟨Or.elim hk_ (fun hs_ => (hs_).elim) (fun hn_ => (Kd.fresh' (Kd.R_lt (rz_ HO200.out)) k_ hn_)), Or.elim hk_ (fun hs_ => (hs_).elim) (fun hn_ => (Kd.freshB (g := gb196) (o := .cells #[.string (⟨#[104, 101, 97, 100, 115, 47, 109, 97, 105, 110]⟩ : ByteArray), .slice none 0 0] 24 (0, 0)) (kz_ BK196.out) k_ hn_)), Or.elim hk_ (fun hs_ => (hs_).elim) (fun hn_ => (Kd.freshB (g := gb206) (o := .cells #[.string (⟨#[]⟩ : ByteArray), .slice none 0 0] 24 (0, 0)) (kz_ BK206.out) k_ hn_))⟩)) (below_size (bs2_ GE196.out GE206.out)))
      have n2_ := Aside0.mk (blk_below (g := gb196) (o := .cells #[.string (⟨#[104, 101, 97, 100, 115, 47, 109, 97, 105, 110]⟩ : ByteArray), .slice none 0 0] 24 (0, 0)) (kz_ BK196.out) hb)
      have n3_ := Aside0.mk (blk_below (g := gb206) (o := .cells #[.string (⟨#[]⟩ : ByteArray), .slice none 0 0] 24 (0, 0)) (kz_ BK206.out) hb)
      have n4_ := Aside0.mk (below_step (bs2_ GE196.out GE206.out) hb)
      clear HO200
      clear BK196
      clear BK206
      clear HB
      have HO200 := n0_
      have HO204 := n1_
      have BK196 := n2_
      have BK206 := n3_
      have HB := n4_
      clear n0_ n1_ n2_ n3_ n4_
      (try clear hb)
      (try clear hb2)
      (try clear hk)
      (try clear hi)
      (try clear ho0)
      refine hK.out _ _ ⟨(blk_cell BK196.out 0).trans rfl, (blk_cell BK196.out 1).trans rfl⟩ (fun hHeld => ?_)
      clear hK K
      refine norm_ (a' := ?_) ?_ ?_
      rotate_left
      · show Act.put _ (some 14) _ = _
        simp only [Act.put, List.setIfInBounds_toArray, List.set_cons_zero, List.set_cons_succ, i64_w, i32_w]
        rfl
      refine pure_ (i := 6) (N := some 8) (v := ?_) (a' := ?_) #[true, true, true, true, true, true, true, false, false, true, false, false] rfl rfl (any_of HT_.out (by kernel_rfl)) (fun _ _ _ h => h) (Or.inl ⟨by rfl, ?_⟩) ?_ ?_
      rotate_left
      · intro w'
        go_simp
        with_reducible rfl
      rotate_left
      · simp only [Act.put, List.setIfInBounds_toArray, List.set_cons_zero, List.set_cons_succ, i64_w, i32_w]
        rfl
      refine pure_ (i := 7) (N := some 15) (v := ?_) (a' := ?_) #[true, true, true, true, true, true, true, true, false, true, false, false] rfl rfl (any_of HT_.out (by kernel_rfl)) (fun _ _ _ h => h) (Or.inl ⟨by rfl, ?_⟩) ?_ ?_
      rotate_left
      · intro w'
        go_simp
        with_reducible rfl
      rotate_left
      · simp only [Act.put, List.setIfInBounds_toArray, List.set_cons_zero, List.set_cons_succ, i64_w, i32_w]
        rfl
      refine pure_ (i := 8) (N := some 16) (v := ?_) (a' := ?_) #[true, true, true, true, true, true, true, true, true, true, false, false] rfl rfl (any_of HT_.out (by kernel_rfl)) (fun _ _ _ h => h) (Or.inl ⟨by rfl, ?_⟩) ?_ ?_
      rotate_left
      · intro w'
        go_simp
        with_reducible rfl
      rotate_left
      · simp only [Act.put, List.setIfInBounds_toArray, List.set_cons_zero, List.set_cons_succ, i64_w, i32_w]
        rfl
      exact norm_ (by simp only [putAll, Act.put, List.setIfInBounds_toArray, List.set_cons_zero, List.set_cons_succ]) (hCont (.slice Ao17 y198.length co17, v203, gb206) _ ⟨hHeld, (rz_ HO200.out), (by (with_reducible repeat (first | apply Kd.V_alloc | apply Kd.V_drewN | apply Kd.V_drew)); exact HO204.out), (kz_ BK196.out), (kz_ BK206.out), GW206.out, GE206.out, NB196_206.out, NB206_196.out, (bs2_ GE196.out GE206.out)⟩)
    ·
     skip
     refine box_step ?hg (N := 3) ?hd (cs := #[.string (⟨#[]⟩ : ByteArray), .slice none 0 0]) (t := 24) ?hr ?_; (case hd => rfl); (case hg => rfl); (case hr => first | (go_simp; done) | (go_simp; rfl))
     intro gb206 hg w13 hbox hb
     have n0_ := Aside0.mk (blk_below (g := gb196) (o := .cells #[.string (⟨#[104, 101, 97, 100, 115, 47, 109, 97, 105, 110]⟩ : ByteArray), .slice none 0 0] 24 (0, 0)) (kz_ BK196.out) hb)
     have n1_ := Aside0.mk (below_step (bs1_ GE196.out) hb)
     have n2_ := Aside0.mk (hbox)
     have n3_ := Aside0.mk ((by rw [hg]; exact (below_size (bs1_ GE196.out)) : w.heap.size ≤ gb206))
     have n4_ := Aside0.mk ((by rw [hg]; exact (below_size (bs1_ GE196.out)) : w.heap.size ≤ gb206))
     have n5_ := Aside0.mk ((by rw [hg]; exact Nat.ne_of_lt (blk_lt (g := gb196) (o := .cells #[.string (⟨#[104, 101, 97, 100, 115, 47, 109, 97, 105, 110]⟩ : ByteArray), .slice none 0 0] 24 (0, 0)) (kz_ BK196.out)) : gb196 ≠ gb206))
     have n6_ := Aside0.mk ((by rw [hg]; exact Nat.ne_of_gt (blk_lt (g := gb196) (o := .cells #[.string (⟨#[104, 101, 97, 100, 115, 47, 109, 97, 105, 110]⟩ : ByteArray), .slice none 0 0] 24 (0, 0)) (kz_ BK196.out)) : gb206 ≠ gb196))
     clear BK196
     clear HB
     have BK196 := n0_
     have HB := n1_
     have BK206 := n2_
     have GW206 := n3_
     have GE206 := n4_
     have NB196_206 := n5_
     have NB206_196 := n6_
     clear n0_ n1_ n2_ n3_ n4_ n5_ n6_
     clear hb hbox hg
     refine hK.out _ _ ⟨(blk_cell BK196.out 0).trans rfl, (blk_cell BK196.out 1).trans rfl⟩ (fun hHeld => ?_)
     clear hK K
     refine norm_ (a' := ?_) ?_ ?_
     rotate_left
     · show Act.put _ (some 3) _ = _
       simp only [Act.put, List.setIfInBounds_toArray, List.set_cons_zero, List.set_cons_succ, i64_w, i32_w]
       rfl
     refine one_ (i := 1) (N := some 10) #[true, true, false, false, true, false, false, false, false, true, false, false] rfl rfl (one_of HT_.out (by kernel_rfl)) (by decide) (fun K hK => ?_)
     refine goes_ Try.func14 (by kernel_rfl) rfl #[.int .u8 97] (by rfl) rfl rfl (by (try simp only [List.map_toArray, List.map_cons, List.map_nil]); first | done | rfl | (simp only [List.length_drop, List.length_take]; rfl)) ?_
     with_reducible refine (pollardlaw13_id.calls k 97 t197 _ A1.out).mono ?_
     rintro e w14 ⟨rfl, hb⟩
     refine ⟨_, rfl, ?_⟩
     have n0_ := Aside0.mk (blk_below (g := gb196) (o := .cells #[.string (⟨#[104, 101, 97, 100, 115, 47, 109, 97, 105, 110]⟩ : ByteArray), .slice none 0 0] 24 (0, 0)) (kz_ BK196.out) hb)
     have n1_ := Aside0.mk (blk_below (g := gb206) (o := .cells #[.string (⟨#[]⟩ : ByteArray), .slice none 0 0] 24 (0, 0)) (kz_ BK206.out) hb)
     have n2_ := Aside0.mk (below_step (bs2_ GE196.out GE206.out) hb)
     clear BK196
     clear BK206
     clear HB
     have BK196 := n0_
     have BK206 := n1_
     have HB := n2_
     clear n0_ n1_ n2_
     (try clear hb)
     (try clear hb2)
     (try clear hk)
     (try clear hi)
     refine hK.out _ _ ⟨(blk_cell BK196.out 0).trans rfl, (blk_cell BK196.out 1).trans rfl⟩ (fun hHeld => ?_)
     clear hK K
     refine norm_ (a' := ?_) ?_ ?_
     rotate_left
     · show Act.put _ (some 10) _ = _
       simp only [Act.put, List.setIfInBounds_toArray, List.set_cons_zero, List.set_cons_succ, i64_w, i32_w]
       rfl
     refine pure_ (i := 2) (N := some 11) (v := ?_) (a' := ?_) #[true, true, true, false, true, false, false, false, false, true, false, false] rfl rfl (any_of HT_.out (by kernel_rfl)) (fun _ _ _ h => h) (Or.inl ⟨by rfl, ?_⟩) ?_ ?_
     rotate_left
     · intro w'
       go_simp
       with_reducible rfl
     rotate_left
     · simp only [Act.put, List.setIfInBounds_toArray, List.set_cons_zero, List.set_cons_succ, i64_w, i32_w]
       rfl
     refine one_ (i := 3) (N := some 12) #[true, true, true, true, true, false, false, false, false, true, false, false] rfl rfl (one_of HT_.out (by kernel_rfl)) (by decide) (fun K hK => ?_)
     refine Kd.R_lit_step k34 _ 34 ?hg (N := 12) ?hd (xs := ([(⟨(⟨#[104, 101, 97, 100, 115, 47, 109, 97, 105, 110]⟩ : ByteArray), (⟨#[]⟩ : ByteArray), t197, false⟩ : S34)] : List (S34))) (inner := [.string (⟨#[104, 101, 97, 100, 115, 47, 109, 97, 105, 110]⟩ : ByteArray), .string (⟨#[]⟩ : ByteArray), .string t197, .bool false]) (ok := fun _ => True) (okp := fun _ => True) ?hr ?hp (fun _ hk => hk) trivial (Below.refl _ _) (Nat.le_refl _) (by simp) ?_; (case hd => rfl); (case hg => rfl); (case hr => first | (go_simp; done) | (go_simp; rfl)); (case hp => exact (Reps.c4 (show Kd.M k34 _ _ _ (⟨(⟨#[104, 101, 97, 100, 115, 47, 109, 97, 105, 110]⟩ : ByteArray), (⟨#[]⟩ : ByteArray), t197, false⟩ : S34) [.string (⟨#[104, 101, 97, 100, 115, 47, 109, 97, 105, 110]⟩ : ByteArray), .string (⟨#[]⟩ : ByteArray), .string t197, .bool false] from (k34_mkM _ _ _ (⟨(⟨#[104, 101, 97, 100, 115, 47, 109, 97, 105, 110]⟩ : ByteArray), (⟨#[]⟩ : ByteArray), t197, false⟩ : S34) )) (Reps.none _ _)))
     intro v199 w15 ho16 hb hg_ hnew_
     clear hg_ hnew_
     (first | rw [← Ny198.out] at ho16 | (simp only [Int.reduceToNat] at ho16; rw [← Ny198.out] at ho16))
     have n0_ := Aside0.mk (Kd.R_lower ho16 (below_size (bs2_ GE196.out GE206.out)))
     have n1_ := Aside0.mk (blk_below (g := gb196) (o := .cells #[.string (⟨#[104, 101, 97, 100, 115, 47, 109, 97, 105, 110]⟩ : ByteArray), .slice none 0 0] 24 (0, 0)) (kz_ BK196.out) hb)
     have n2_ := Aside0.mk (blk_below (g := gb206) (o := .cells #[.string (⟨#[]⟩ : ByteArray), .slice none 0 0] 24 (0, 0)) (kz_ BK206.out) hb)
     have n3_ := Aside0.mk (below_step (bs2_ GE196.out GE206.out) hb)
     clear BK196
     clear BK206
     clear HB
     have HO200 := n0_
     have BK196 := n1_
     have BK206 := n2_
     have HB := n3_
     clear n0_ n1_ n2_ n3_
     clear hb ho16
     obtain ⟨Ao17, co17, eo17⟩ := Kd.R_slice HO200.out
     (first | subst eo17 | (injection eo17 with f1_ f2_ f3_; have f4_ := f1_.symm; have f5_ := f3_.symm; clear f1_ f2_ f3_; subst f4_; subst f5_))
     refine hK.out _ _ ⟨(blk_cell BK196.out 0).trans rfl, (blk_cell BK196.out 1).trans rfl⟩ (fun hHeld => ?_)
     clear hK K
     refine norm_ (a' := ?_) ?_ ?_
     rotate_left
     · show Act.put _ (some 12) _ = _
       simp only [Act.put, List.setIfInBounds_toArray, List.set_cons_zero, List.set_cons_succ, i64_w, i32_w]
       rfl
     refine one_ (i := 5) (N := some 14) #[true, true, true, true, true, true, false, false, false, true, false, false] rfl rfl (one_of HT_.out (by kernel_rfl)) (by decide) (fun K hK => ?_)
     refine goes_ Try.func8 (by kernel_rfl) rfl #[.agg #[.string (⟨#[104, 101, 97, 100, 115, 47, 109, 97, 105, 110]⟩ : ByteArray), .slice none 0 0], .slice Ao17 y198.length co17, .func (.func 30) #[] #[]] (by rfl) rfl rfl (by (try simp only [List.map_toArray, List.map_cons, List.map_nil]); first | done | rfl | (simp only [List.length_drop, List.length_take]; rfl)) ?_
     refine (refs_Apply.calls k (⟨#[104, 101, 97, 100, 115, 47, 109, 97, 105, 110]⟩ : ByteArray) (fun k_ => False) _ _ ([] : List (S50)) _ _ y198 t201 t202 t205 _ ?side1 ?side2 ?side3 A2.out).mono ?_
     (case side1 => exact Kd.V_nil _ _ _ _ _)
     (case side2 => repeat (first | exact (Kd.R_reads' HO200.out).2.2 | (with_reducible refine Kd.C_alloc ?_ _) | (with_reducible refine Kd.C_drewN ?_ _) | (with_reducible refine Kd.C_drew ?_)))
     (case side3 => exact (Kd.R_reads' HO200.out).2.1)
     rintro e w18 ⟨v203, rfl, ho0, hb⟩
     refine ⟨_, rfl, ?_⟩
     have n0_ := Aside0.mk (Kd.R_below (rz_ HO200.out) hb)
     have n1_ := Aside0.mk (Kd.V_lower (Kd.V_mono (ok' := fun k_ => some k_ ≠ (.slice Ao17 y198.length co17 : Value).ownBlock ∧ k_ ≠ gb196 ∧ k_ ≠ gb206) ho0 (fun k_ hk_ => ⟨Or.elim hk_ (fun hs_ => (hs_).elim) (fun hn_ => (Kd.fresh' (Kd.R_lt (rz_ HO200.out)) k_ hn_)), Or.elim hk_ (fun hs_ => (hs_).elim) (fun hn_ => (Kd.freshB (g := gb196) (o := .cells #[.string (⟨#[104, 101, 97, 100, 115, 47, 109, 97, 105, 110]⟩ : ByteArray), .slice none 0 0] 24 (0, 0)) (kz_ BK196.out) k_ hn_)), Or.elim hk_ (fun hs_ => (hs_).elim) (fun hn_ => (Kd.freshB (g := gb206) (o := .cells #[.string (⟨#[]⟩ : ByteArray), .slice none 0 0] 24 (0, 0)) (kz_ BK206.out) k_ hn_))⟩)) (below_size (bs2_ GE196.out GE206.out)))
     have n2_ := Aside0.mk (blk_below (g := gb196) (o := .cells #[.string (⟨#[104, 101, 97, 100, 115, 47, 109, 97, 105, 110]⟩ : ByteArray), .slice none 0 0] 24 (0, 0)) (kz_ BK196.out) hb)
     have n3_ := Aside0.mk (blk_below (g := gb206) (o := .cells #[.string (⟨#[]⟩ : ByteArray), .slice none 0 0] 24 (0, 0)) (kz_ BK206.out) hb)
     have n4_ := Aside0.mk (below_step (bs2_ GE196.out GE206.out) hb)
     clear HO200
     clear BK196
     clear BK206
     clear HB
     have HO200 := n0_
     have HO204 := n1_
     have BK196 := n2_
     have BK206 := n3_
     have HB := n4_
     clear n0_ n1_ n2_ n3_ n4_
     (try clear hb)
     (try clear hb2)
     (try clear hk)
     (try clear hi)
     (try clear ho0)
     refine hK.out _ _ ⟨(blk_cell BK196.out 0).trans rfl, (blk_cell BK196.out 1).trans rfl⟩ (fun hHeld => ?_)
     clear hK K
     refine norm_ (a' := ?_) ?_ ?_
     rotate_left
     · show Act.put _ (some 14) _ = _
       simp only [Act.put, List.setIfInBounds_toArray, List.set_cons_zero, List.set_cons_succ, i64_w, i32_w]
       rfl
     refine pure_ (i := 6) (N := some 8) (v := ?_) (a' := ?_) #[true, true, true, true, true, true, true, false, false, true, false, false] rfl rfl (any_of HT_.out (by kernel_rfl)) (fun _ _ _ h => h) (Or.inl ⟨by rfl, ?_⟩) ?_ ?_
     rotate_left
     · intro w'
       go_simp
       with_reducible rfl
     rotate_left
     · simp only [Act.put, List.setIfInBounds_toArray, List.set_cons_zero, List.set_cons_succ, i64_w, i32_w]
       rfl
     refine pure_ (i := 7) (N := some 15) (v := ?_) (a' := ?_) #[true, true, true, true, true, true, true, true, false, true, false, false] rfl rfl (any_of HT_.out (by kernel_rfl)) (fun _ _ _ h => h) (Or.inl ⟨by rfl, ?_⟩) ?_ ?_
     rotate_left
     · intro w'
       go_simp
       with_reducible rfl
     rotate_left
     · simp only [Act.put, List.setIfInBounds_toArray, List.set_cons_zero, List.set_cons_succ, i64_w, i32_w]
       rfl
     refine pure_ (i := 8) (N := some 16) (v := ?_) (a' := ?_) #[true, true, true, true, true, true, true, true, true, true, false, false] rfl rfl (any_of HT_.out (by kernel_rfl)) (fun _ _ _ h => h) (Or.inl ⟨by rfl, ?_⟩) ?_ ?_
     rotate_left
     · intro w'
       go_simp
       with_reducible rfl
     rotate_left
     · simp only [Act.put, List.setIfInBounds_toArray, List.set_cons_zero, List.set_cons_succ, i64_w, i32_w]
       rfl
     exact norm_ (by simp only [putAll, Act.put, List.setIfInBounds_toArray, List.set_cons_zero, List.set_cons_succ]) (hCont (.slice Ao17 y198.length co17, v203, gb206) _ ⟨hHeld, (rz_ HO200.out), (by (with_reducible repeat (first | apply Kd.V_alloc | apply Kd.V_drewN | apply Kd.V_drew)); exact HO204.out), (kz_ BK196.out), (kz_ BK206.out), GW206.out, GE206.out, NB196_206.out, NB206_196.out, (bs2_ GE196.out GE206.out)⟩)
   rintro ⟨v199, v203, gb206⟩ w19 ⟨hS_, h0_, h1_, h2_, h3_, h4_, h5_, h6_, h7_, h8_⟩
   have n0_ : Aside0 (Kd.R k34 34 w19 w.heap.size (fun _ => True) v199 y198) := ⟨h0_⟩
   have n1_ : Aside0 (Kd.V k50 50 w19 w.heap.size (fun k_ => some k_ ≠ (v199 : Value).ownBlock ∧ k_ ≠ gb196 ∧ k_ ≠ gb206) v203 t202) := ⟨h1_⟩
   have n2_ : Aside0 (w19.heap[gb196]? = some (.cells #[.string (⟨#[104, 101, 97, 100, 115, 47, 109, 97, 105, 110]⟩ : ByteArray), .slice none 0 0] 24 (0, 0))) := ⟨h2_⟩
   have n3_ : Aside0 (w19.heap[gb206]? = some (.cells #[.string (⟨#[]⟩ : ByteArray), .slice none 0 0] 24 (0, 0))) := ⟨h3_⟩
   have n4_ : Aside0 (w.heap.size ≤ gb206) := ⟨h4_⟩
   have n5_ : Aside0 (w.heap.size ≤ gb206) := ⟨h5_⟩
   have n6_ : Aside0 (gb196 ≠ gb206) := ⟨h6_⟩
   have n7_ : Aside0 (gb206 ≠ gb196) := ⟨h7_⟩
   have n8_ : Aside0 (Below w.heap.size w w19) := ⟨h8_⟩
   clear BK196
   clear HB
   clear h0_ h1_ h2_ h3_ h4_ h5_ h6_ h7_ h8_
   have HO200 := n0_
   have HO204 := n1_
   have BK196 := n2_
   have BK206 := n3_
   have GW206 := n4_
   have GE206 := n5_
   have NB196_206 := n6_
   have NB206_196 := n7_
   have HB := n8_
   clear n0_ n1_ n2_ n3_ n4_ n5_ n6_ n7_ n8_
   have hHeld : w19.cell? ⟨gb196, 0, none⟩ = some (.string (⟨#[104, 101, 97, 100, 115, 47, 109, 97, 105, 110]⟩ : ByteArray)) ∧ w19.cell? ⟨gb196, 1, none⟩ = some (.slice none 0 0) := hS_
   obtain ⟨Ao21, co21, eo21⟩ := Kd.V_slice HO204.out
   (first | subst eo21 | (injection eo21 with f1_ f2_ f3_; have f4_ := f1_.symm; have f5_ := f3_.symm; clear f1_ f2_ f3_; subst f4_; subst f5_))
   refine norm_ (a' := ?_) ?_ ?_
   rotate_left
   · simp only [putAll, Act.put, List.setIfInBounds_toArray, List.set_cons_zero, List.set_cons_succ]
     rfl
   refine one_ (i := 10) (N := none) #[true, true, true, true, true, true, true, true, true, true, true, false] rfl rfl (one_of HT_.out (by kernel_rfl)) (by decide) (fun K hK => ?_)
   have hs20 : w19.cell? ⟨gb206, 0, none⟩ = some (.string (⟨#[]⟩ : ByteArray)) := (blk_cell BK206.out 0).trans rfl
   have hfs20 := blk_frozen BK206.out 0
   have hns20_0 := NB196_206.out
   have hms20_0 := NB206_196.out
   have hs22 : w19.cell? ⟨gb206, 1, none⟩ = some (.slice none 0 0) := (blk_cell BK206.out 1).trans rfl
   have hfs22 := blk_frozen BK206.out 1
   have hns22_0 := NB196_206.out
   have hms22_0 := NB206_196.out
   refine skip_ (w1 := ?_) (by rfl) rfl ?_ ?_
   rotate_left
   · go_simp
     rfl
   refine hK.out _ _ ⟨((cell_far (p := ⟨gb206, _, none⟩) NB196_206.out _).trans (((cell_far (p := ⟨gb206, _, none⟩) NB196_206.out _).trans (hHeld.1)))), ((cell_far (p := ⟨gb206, _, none⟩) NB196_206.out _).trans (((cell_far (p := ⟨gb206, _, none⟩) NB196_206.out _).trans (hHeld.2))))⟩ (fun hHeld => ?_)
   clear hK K
   refine pure_ (i := 11) (N := some 4) (v := ?_) (a' := ?_) #[true, true, true, true, true, true, true, true, true, true, true, true] rfl rfl (any_of HT_.out (by kernel_rfl)) (fun _ _ _ h => h) (Or.inl ⟨by rfl, ?_⟩) ?_ ?_
   rotate_left
   · intro w'
     go_simp
     with_reducible rfl
   rotate_left
   · simp only [Act.put, List.setIfInBounds_toArray, List.set_cons_zero, List.set_cons_succ, i64_w, i32_w]
     rfl
   refine done_ (done_of HT_.out (by kernel_rfl)) ?_
   try go_wp2
   have n0_ : Aside0 (Kd.R k34 34 ((w19.setCell ⟨gb206, 0, none⟩ (.string t201)).setCell ⟨gb206, 1, none⟩ (.slice Ao21 t202.length co21)) w.heap.size (fun _ => True) v199 y198) := ⟨rz_ (Kd.R_mono (Kd.R_far (p := ⟨gb206, 1, none⟩) (Kd.R_far (p := ⟨gb206, 0, none⟩) (Kd.R_types HO200.out BK206.out (by decide)) (fun _ hk => hk.2) (.string t201)) (fun _ hk => hk.2) (.slice Ao21 t202.length co21)) (fun _ hk => trivial))⟩
   have n1_ : Aside0 (Kd.V k50 50 ((w19.setCell ⟨gb206, 0, none⟩ (.string t201)).setCell ⟨gb206, 1, none⟩ (.slice Ao21 t202.length co21)) w.heap.size (fun k_ => some k_ ≠ (v199 : Value).ownBlock ∧ k_ ≠ gb196 ∧ k_ ≠ gb206) (.slice Ao21 t202.length co21) t202) := ⟨by (with_reducible repeat (first | apply Kd.V_alloc | apply Kd.V_drewN | apply Kd.V_drew)); exact Kd.V_mono (Kd.V_far (p := ⟨gb206, 1, none⟩) (Kd.V_far (p := ⟨gb206, 0, none⟩) (Kd.V_mono HO204.out (fun k_ hk => (⟨hk, hk.2.2⟩ : _ ∧ k_ ≠ gb206))) (fun _ hk => hk.2) (.string t201)) (fun _ hk => hk.2) (.slice Ao21 t202.length co21)) (fun _ hk => ⟨hk.1.1, ⟨hk.1.2.1, hk.1.2.2⟩⟩)⟩
   have n2_ : Aside0 (((w19.setCell ⟨gb206, 0, none⟩ (.string t201)).setCell ⟨gb206, 1, none⟩ (.slice Ao21 t202.length co21)).heap[gb196]? = some (.cells #[.string (⟨#[104, 101, 97, 100, 115, 47, 109, 97, 105, 110]⟩ : ByteArray), .slice none 0 0] 24 (0, 0))) := ⟨by (with_reducible repeat (first | refine blk_drewN ?_ _ | refine blk_drew ?_ | refine blk_alloc ?_ _)); refine blk_far ?_ NB196_206.out _; (with_reducible repeat (first | refine blk_drewN ?_ _ | refine blk_drew ?_ | refine blk_alloc ?_ _)); refine blk_far ?_ NB196_206.out _; (with_reducible repeat (first | refine blk_drewN ?_ _ | refine blk_drew ?_ | refine blk_alloc ?_ _)); exact BK196.out⟩
   have n3_ : Aside0 (((w19.setCell ⟨gb206, 0, none⟩ (.string t201)).setCell ⟨gb206, 1, none⟩ (.slice Ao21 t202.length co21)).heap[gb206]? = some (.cells #[.string t201, .slice Ao21 t202.length co21] 24 (0, 0))) := ⟨by (with_reducible repeat (first | refine blk_drewN ?_ _ | refine blk_drew ?_ | refine blk_alloc ?_ _)); refine blk_put (cs := #[.string t201, .slice none 0 0]) ?_ 1 _ rfl; (with_reducible repeat (first | refine blk_drewN ?_ _ | refine blk_drew ?_ | refine blk_alloc ?_ _)); refine blk_put (cs := #[.string (⟨#[]⟩ : ByteArray), .slice none 0 0]) ?_ 0 _ rfl; (with_reducible repeat (first | refine blk_drewN ?_ _ | refine blk_drew ?_ | refine blk_alloc ?_ _)); exact BK206.out⟩
   have n4_ : Aside0 (Below w.heap.size w ((w19.setCell ⟨gb206, 0, none⟩ (.string t201)).setCell ⟨gb206, 1, none⟩ (.slice Ao21 t202.length co21))) := ⟨bs2_ GE196.out GE206.out⟩
   (try clear HO200)
   (try clear HO204)
   (try clear BK196)
   (try clear BK206)
   (try clear HB)
   generalize ((w19.setCell ⟨gb206, 0, none⟩ (.string t201)).setCell ⟨gb206, 1, none⟩ (.slice Ao21 t202.length co21)) = w23 at n0_ n1_ n2_ n3_ n4_ ⊢
   have HO200 := n0_
   have HO204 := n1_
   have BK196 := n2_
   have BK206 := n3_
   have HB := n4_
   clear n0_ n1_ n2_ n3_ n4_
   have n0_ := Aside0.mk (Kd.R_drew HO200.out)
   have n1_ := Aside0.mk (Kd.V_drew HO204.out)
   have n2_ := Aside0.mk (blk_drew BK196.out)
   have n3_ := Aside0.mk (blk_drew BK206.out)
   have n4_ := Aside0.mk (below_drew1 HB.out)
   clear HO200
   clear HO204
   clear BK196
   clear BK206
   clear HB
   have HO200 := n0_
   have HO204 := n1_
   have BK196 := n2_
   have BK206 := n3_
   have HB := n4_
   clear n0_ n1_ n2_ n3_ n4_
   refine start_ (n := 12) (S := fun w' => w'.cell? ⟨gb206, 0, none⟩ = some (.string t201) ∧ w'.cell? ⟨gb206, 1, none⟩ = some (.slice Ao21 t202.length co21)) (ds := []) #[false, false, false, false, false, false, false, false, false, false, false, false] (by kernel_rfl) rfl rfl ⟨(blk_cell BK206.out 0).trans rfl, (blk_cell BK206.out 1).trans rfl⟩ (fun hHeld => ?_); refine with_tabW pollardlaw13_awake.tab4 pollardlaw13_awake.bits4 (fun HT_ HW_ => ?_)
   generalize w23.drew = w24 at HO200 HO204 BK196 BK206 HB hHeld ⊢
   refine pure_ (i := 4) (N := some 22) (v := ?_) (a' := ?_) #[false, false, false, false, true, false, false, false, false, false, false, false] rfl rfl (any_of HT_.out (by kernel_rfl)) (fun _ _ _ h => h) (Or.inl ⟨by rfl, ?_⟩) ?_ ?_
   rotate_left
   · intro w'
     go_simp
     with_reducible rfl
   rotate_left
   · simp only [Act.put, List.setIfInBounds_toArray, List.set_cons_zero, List.set_cons_succ, i64_w, i32_w]
     rfl
   refine take_ (i := 0) (N := some 18) (v := ?_) (a' := ?_) #[true, false, false, false, true, false, false, false, false, false, false, false] rfl rfl (take_ofW HT_.out HW_.out (by kernel_rfl)) (fun _ _ _ h => h) (Or.inl ⟨by rfl, ?_⟩) hHeld ?_ ?_
   rotate_left
   · rintro w' ⟨s0, s1⟩
     go_simp
     with_reducible rfl
   rotate_left
   · simp only [Act.put, List.setIfInBounds_toArray, List.set_cons_zero, List.set_cons_succ, i64_w, i32_w]
     rfl
   refine join_ (σ := Value × Value × Nat) 2 #[true, true, true, true, true, true, true, true, true, true, false, false] (fun s_ => [(19, .string t207), (21, s_.1), (23, .tuple #[.agg #[.string t211, s_.2.1], .int .i64 t215]), (5, .pointer (some ⟨s_.2.2, 0, none⟩)), (20, .agg #[.string (⟨#[104, 101, 97, 100, 115, 47, 109, 97, 105, 110]⟩ : ByteArray), .string (⟨#[]⟩ : ByteArray), .string t207, .bool false]), (17, .tuple #[.agg #[.string t211, s_.2.1], .int .i64 t215]), (24, .agg #[.string t211, s_.2.1]), (25, .int .i64 t215)]) (fun s_ w' => (w'.cell? ⟨gb206, 0, none⟩ = some (.string t201) ∧ w'.cell? ⟨gb206, 1, none⟩ = some (.slice Ao21 t202.length co21)) ∧ (Kd.R k34 34 w' w.heap.size (fun k_ => some k_ ≠ (s_.1 : Value).ownBlock) v199 y198) ∧ (Kd.V k50 50 w' w.heap.size (fun k_ => some k_ ≠ (v199 : Value).ownBlock ∧ some k_ ≠ (s_.1 : Value).ownBlock ∧ k_ ≠ gb196 ∧ k_ ≠ gb206 ∧ k_ ≠ s_.2.2) (.slice Ao21 t202.length co21) t202) ∧ (Kd.R k34 34 w' w.heap.size (fun k_ => some k_ ≠ (v199 : Value).ownBlock) s_.1 y208) ∧ (Kd.V k50 50 w' w.heap.size (fun k_ => some k_ ≠ (v199 : Value).ownBlock ∧ some k_ ≠ (s_.1 : Value).ownBlock ∧ k_ ≠ gb196 ∧ k_ ≠ gb206 ∧ k_ ≠ s_.2.2) s_.2.1 t212) ∧ (w'.heap[gb196]? = some (.cells #[.string (⟨#[104, 101, 97, 100, 115, 47, 109, 97, 105, 110]⟩ : ByteArray), .slice none 0 0] 24 (0, 0))) ∧ (w'.heap[gb206]? = some (.cells #[.string t201, .slice Ao21 t202.length co21] 24 (0, 0))) ∧ (w'.heap[s_.2.2]? = some (.cells #[.string (⟨#[]⟩ : ByteArray), .slice none 0 0] 24 (0, 0))) ∧ (w.heap.size ≤ s_.2.2) ∧ (w.heap.size ≤ s_.2.2) ∧ (gb196 ≠ s_.2.2) ∧ (s_.2.2 ≠ gb196) ∧ (gb206 ≠ s_.2.2) ∧ (s_.2.2 ≠ gb206) ∧ (Below w.heap.size w w')) ?_ ?_
   rotate_left
   ·
    intro hCont
    refine two_ (i := 1) (j := 9) (Ni := some 19) (Nj := some 5) #[true, true, false, false, true, false, false, false, false, false, false, false] #[true, false, false, false, true, false, false, false, false, true, false, false] rfl rfl rfl rfl (two_of HT_.out (by kernel_rfl)) (by decide) (by decide) (fun K hK => ?_) (fun K hK => ?_)
    ·
     skip
     refine goes_ Try.func14 (by kernel_rfl) rfl #[.int .u8 98] (by rfl) rfl rfl (by (try simp only [List.map_toArray, List.map_cons, List.map_nil]); first | done | rfl | (simp only [List.length_drop, List.length_take]; rfl)) ?_
     with_reducible refine (pollardlaw13_id.calls k 98 t207 _ A3.out).mono ?_
     rintro e w25 ⟨rfl, hb⟩
     refine ⟨_, rfl, ?_⟩
     have n0_ := Aside0.mk (Kd.R_below (rz_ HO200.out) hb)
     have n1_ := Aside0.mk (Kd.V_below (by (with_reducible repeat (first | apply Kd.V_alloc | apply Kd.V_drewN | apply Kd.V_drew)); exact HO204.out) hb)
     have n2_ := Aside0.mk (blk_below (g := gb196) (o := .cells #[.string (⟨#[104, 101, 97, 100, 115, 47, 109, 97, 105, 110]⟩ : ByteArray), .slice none 0 0] 24 (0, 0)) (kz_ BK196.out) hb)
     have n3_ := Aside0.mk (blk_below (g := gb206) (o := .cells #[.string t201, .slice Ao21 t202.length co21] 24 (0, 0)) (kz_ BK206.out) hb)
     have n4_ := Aside0.mk (below_step (bs2_ GE196.out GE206.out) hb)
     clear HO200
     clear HO204
     clear BK196
     clear BK206
     clear HB
     have HO200 := n0_
     have HO204 := n1_
     have BK196 := n2_
     have BK206 := n3_
     have HB := n4_
     clear n0_ n1_ n2_ n3_ n4_
     (try clear hb)
     (try clear hb2)
     (try clear hk)
     (try clear hi)
     refine hK.out _ _ ⟨(blk_cell BK206.out 0).trans rfl, (blk_cell BK206.out 1).trans rfl⟩ (fun hHeld => ?_)
     clear hK K
     refine norm_ (a' := ?_) ?_ ?_
     rotate_left
     · show Act.put _ (some 19) _ = _
       simp only [Act.put, List.setIfInBounds_toArray, List.set_cons_zero, List.set_cons_succ, i64_w, i32_w]
       rfl
     refine pure_ (i := 2) (N := some 20) (v := ?_) (a' := ?_) #[true, true, true, false, true, false, false, false, false, false, false, false] rfl rfl (any_of HT_.out (by kernel_rfl)) (fun _ _ _ h => h) (Or.inl ⟨by rfl, ?_⟩) ?_ ?_
     rotate_left
     · intro w'
       go_simp
       with_reducible rfl
     rotate_left
     · simp only [Act.put, List.setIfInBounds_toArray, List.set_cons_zero, List.set_cons_succ, i64_w, i32_w]
       rfl
     refine two_ (i := 3) (j := 9) (Ni := some 21) (Nj := some 5) #[true, true, true, true, true, false, false, false, false, false, false, false] #[true, true, true, false, true, false, false, false, false, true, false, false] rfl rfl rfl rfl (two_of HT_.out (by kernel_rfl)) (by decide) (by decide) (fun K hK => ?_) (fun K hK => ?_)
     ·
      skip
      refine Kd.R_lit_step k34 _ 34 ?hg (N := 21) ?hd (xs := ([(⟨(⟨#[104, 101, 97, 100, 115, 47, 109, 97, 105, 110]⟩ : ByteArray), (⟨#[]⟩ : ByteArray), t207, false⟩ : S34)] : List (S34))) (inner := [.string (⟨#[104, 101, 97, 100, 115, 47, 109, 97, 105, 110]⟩ : ByteArray), .string (⟨#[]⟩ : ByteArray), .string t207, .bool false]) (ok := fun _ => True) (okp := fun _ => True) ?hr ?hp (fun _ hk => hk) trivial (Below.refl _ _) (Nat.le_refl _) (by simp) ?_; (case hd => rfl); (case hg => rfl); (case hr => first | (go_simp; done) | (go_simp; rfl)); (case hp => exact (Reps.c4 (show Kd.M k34 _ _ _ (⟨(⟨#[104, 101, 97, 100, 115, 47, 109, 97, 105, 110]⟩ : ByteArray), (⟨#[]⟩ : ByteArray), t207, false⟩ : S34) [.string (⟨#[104, 101, 97, 100, 115, 47, 109, 97, 105, 110]⟩ : ByteArray), .string (⟨#[]⟩ : ByteArray), .string t207, .bool false] from (k34_mkM _ _ _ (⟨(⟨#[104, 101, 97, 100, 115, 47, 109, 97, 105, 110]⟩ : ByteArray), (⟨#[]⟩ : ByteArray), t207, false⟩ : S34) )) (Reps.none _ _)))
      intro v209 w26 ho27 hb hg_ hnew_
      clear hg_ hnew_
      (first | rw [← Ny208.out] at ho27 | (simp only [Int.reduceToNat] at ho27; rw [← Ny208.out] at ho27))
      have n0_ := Aside0.mk (Kd.R_elder' (rz_ HO200.out) (Kd.R_base ho27) hb)
      have n1_ := Aside0.mk (Kd.V_elder' (by (with_reducible repeat (first | apply Kd.V_alloc | apply Kd.V_drewN | apply Kd.V_drew)); exact HO204.out) (Kd.R_base ho27) hb)
      have n2_ := Aside0.mk (Kd.R_lower (Kd.R_new' ho27 (Kd.R_lt (rz_ HO200.out))) (below_size (bs2_ GE196.out GE206.out)))
      have n3_ := Aside0.mk (blk_below (g := gb196) (o := .cells #[.string (⟨#[104, 101, 97, 100, 115, 47, 109, 97, 105, 110]⟩ : ByteArray), .slice none 0 0] 24 (0, 0)) (kz_ BK196.out) hb)
      have n4_ := Aside0.mk (blk_below (g := gb206) (o := .cells #[.string t201, .slice Ao21 t202.length co21] 24 (0, 0)) (kz_ BK206.out) hb)
      have n5_ := Aside0.mk (below_step (bs2_ GE196.out GE206.out) hb)
      clear HO200
      clear HO204
      clear BK196
      clear BK206
      clear HB
      have HO200 := n0_
      have HO204 := n1_
      have HO210 := n2_
      have BK196 := n3_
      have BK206 := n4_
      have HB := n5_
      clear n0_ n1_ n2_ n3_ n4_ n5_
      clear hb ho27
      obtain ⟨Ao28, co28, eo28⟩ := Kd.R_slice HO210.out
      (first | subst eo28 | (injection eo28 with f1_ f2_ f3_; have f4_ := f1_.symm; have f5_ := f3_.symm; clear f1_ f2_ f3_; subst f4_; subst f5_))
      refine hK.out _ _ ⟨(blk_cell BK206.out 0).trans rfl, (blk_cell BK206.out 1).trans rfl⟩ (fun hHeld => ?_)
      clear hK K
      refine norm_ (a' := ?_) ?_ ?_
      rotate_left
      · show Act.put _ (some 21) _ = _
        simp only [Act.put, List.setIfInBounds_toArray, List.set_cons_zero, List.set_cons_succ, i64_w, i32_w]
        rfl
      refine two_ (i := 5) (j := 9) (Ni := some 23) (Nj := some 5) #[true, true, true, true, true, true, false, false, false, false, false, false] #[true, true, true, true, true, false, false, false, false, true, false, false] rfl rfl rfl rfl (two_of HT_.out (by kernel_rfl)) (by decide) (by decide) (fun K hK => ?_) (fun K hK => ?_)
      ·
       skip
       refine goes_ Try.func8 (by kernel_rfl) rfl #[.agg #[.string t201, .slice Ao21 t202.length co21], .slice Ao28 y208.length co28, .func (.func 30) #[] #[]] (by rfl) rfl rfl (by (try simp only [List.map_toArray, List.map_cons, List.map_nil]); first | done | rfl | (simp only [List.length_drop, List.length_take]; rfl)) ?_
       with_reducible refine (refs_Apply.calls k t201 (fun k_ => ((some k_ ≠ (v199 : Value).ownBlock ∧ (k_ ≠ gb196 ∧ k_ ≠ gb206)) ∧ some k_ ≠ (.slice Ao28 y208.length co28 : Value).ownBlock)) _ _ t202 _ _ y208 t211 t212 t215 _ ?side1 ?side2 ?side3 A4.out).mono ?_
       (case side1 => exact HO204.out)
       (case side2 => repeat (first | exact (Kd.R_reads' HO210.out).2.2 | (with_reducible refine Kd.C_alloc ?_ _) | (with_reducible refine Kd.C_drewN ?_ _) | (with_reducible refine Kd.C_drew ?_)))
       (case side3 => exact (Kd.R_reads' HO210.out).2.1)
       rintro e w29 ⟨v213, rfl, ho0, hb⟩
       refine ⟨_, rfl, ?_⟩
       have n0_ := Aside0.mk (Kd.R_below (rz_ HO200.out) hb)
       have n1_ := Aside0.mk (Kd.V_below (by (with_reducible repeat (first | apply Kd.V_alloc | apply Kd.V_drewN | apply Kd.V_drew)); exact HO204.out) hb)
       have n2_ := Aside0.mk (Kd.R_below (rz_ HO210.out) hb)
       have n3_ := Aside0.mk (Kd.V_lower (Kd.V_mono (ok' := fun k_ => some k_ ≠ (v199 : Value).ownBlock ∧ some k_ ≠ (.slice Ao28 y208.length co28 : Value).ownBlock ∧ k_ ≠ gb196 ∧ k_ ≠ gb206) ho0 (fun k_ hk_ => ⟨Or.elim hk_ (fun hs_ => hs_.1.1) (fun hn_ => (Kd.fresh' (Kd.R_lt (rz_ HO200.out)) k_ hn_)), Or.elim hk_ (fun hs_ => hs_.2) (fun hn_ => (Kd.fresh' (Kd.R_lt (rz_ HO210.out)) k_ hn_)), Or.elim hk_ (fun hs_ => hs_.1.2.1) (fun hn_ => (Kd.freshB (g := gb196) (o := .cells #[.string (⟨#[104, 101, 97, 100, 115, 47, 109, 97, 105, 110]⟩ : ByteArray), .slice none 0 0] 24 (0, 0)) (kz_ BK196.out) k_ hn_)), Or.elim hk_ (fun hs_ => hs_.1.2.2) (fun hn_ => (Kd.freshB (g := gb206) (o := .cells #[.string t201, .slice Ao21 t202.length co21] 24 (0, 0)) (kz_ BK206.out) k_ hn_))⟩)) (below_size (bs2_ GE196.out GE206.out)))
       have n4_ := Aside0.mk (blk_below (g := gb196) (o := .cells #[.string (⟨#[104, 101, 97, 100, 115, 47, 109, 97, 105, 110]⟩ : ByteArray), .slice none 0 0] 24 (0, 0)) (kz_ BK196.out) hb)
       have n5_ := Aside0.mk (blk_below (g := gb206) (o := .cells #[.string t201, .slice Ao21 t202.length co21] 24 (0, 0)) (kz_ BK206.out) hb)
       have n6_ := Aside0.mk (below_step (bs2_ GE196.out GE206.out) hb)
       clear HO200
       clear HO204
       clear HO210
       clear BK196
       clear BK206
       clear HB
       have HO200 := n0_
       have HO204 := n1_
       have HO210 := n2_
       have HO214 := n3_
       have BK196 := n4_
       have BK206 := n5_
       have HB := n6_
       clear n0_ n1_ n2_ n3_ n4_ n5_ n6_
       (try clear hb)
       (try clear hb2)
       (try clear hk)
       (try clear hi)
       (try clear ho0)
       refine hK.out _ _ ⟨(blk_cell BK206.out 0).trans rfl, (blk_cell BK206.out 1).trans rfl⟩ (fun hHeld => ?_)
       clear hK K
       refine norm_ (a' := ?_) ?_ ?_
       rotate_left
       · show Act.put _ (some 23) _ = _
         simp only [Act.put, List.setIfInBounds_toArray, List.set_cons_zero, List.set_cons_succ, i64_w, i32_w]
         rfl
       refine pure_ (i := 6) (N := some 17) (v := ?_) (a' := ?_) #[true, true, true, true, true, true, true, false, false, false, false, false] rfl rfl (any_of HT_.out (by kernel_rfl)) (fun _ _ _ h => h) (Or.inl ⟨by rfl, ?_⟩) ?_ ?_
       rotate_left
       · intro w'
         go_simp
         with_reducible rfl
       rotate_left
       · simp only [Act.put, List.setIfInBounds_toArray, List.set_cons_zero, List.set_cons_succ, i64_w, i32_w]
         rfl
       refine pure_ (i := 7) (N := some 24) (v := ?_) (a' := ?_) #[true, true, true, true, true, true, true, true, false, false, false, false] rfl rfl (any_of HT_.out (by kernel_rfl)) (fun _ _ _ h => h) (Or.inl ⟨by rfl, ?_⟩) ?_ ?_
       rotate_left
       · intro w'
         go_simp
         with_reducible rfl
       rotate_left
       · simp only [Act.put, List.setIfInBounds_toArray, List.set_cons_zero, List.set_cons_succ, i64_w, i32_w]
         rfl
       refine pure_ (i := 8) (N := some 25) (v := ?_) (a' := ?_) #[true, true, true, true, true, true, true, true, true, false, false, false] rfl rfl (any_of HT_.out (by kernel_rfl)) (fun _ _ _ h => h) (Or.inl ⟨by rfl, ?_⟩) ?_ ?_
       rotate_left
       · intro w'
         go_simp
         with_reducible rfl
       rotate_left
       · simp only [Act.put, List.setIfInBounds_toArray, List.set_cons_zero, List.set_cons_succ, i64_w, i32_w]
         rfl
       refine one_ (i := 9) (N := some 5) #[true, true, true, true, true, true, true, true, true, true, false, false] rfl rfl (one_of HT_.out (by kernel_rfl)) (by decide) (fun K hK => ?_)
       refine box_step ?hg (N := 5) ?hd (cs := #[.string (⟨#[]⟩ : ByteArray), .slice none 0 0]) (t := 24) ?hr ?_; (case hd => rfl); (case hg => rfl); (case hr => first | (go_simp; done) | (go_simp; rfl))
       intro gb216 hg w30 hbox hb
       have n0_ := Aside0.mk (Kd.R_below (rz_ HO200.out) hb)
       have n1_ := Aside0.mk (Kd.V_below (Kd.V_elderB (by (with_reducible repeat (first | apply Kd.V_alloc | apply Kd.V_drewN | apply Kd.V_drew)); exact HO204.out) gb216 (Nat.le_of_eq hg.symm)) hb)
       have n2_ := Aside0.mk (Kd.R_below (rz_ HO210.out) hb)
       have n3_ := Aside0.mk (Kd.V_below (Kd.V_elderB (by (with_reducible repeat (first | apply Kd.V_alloc | apply Kd.V_drewN | apply Kd.V_drew)); exact HO214.out) gb216 (Nat.le_of_eq hg.symm)) hb)
       have n4_ := Aside0.mk (blk_below (g := gb196) (o := .cells #[.string (⟨#[104, 101, 97, 100, 115, 47, 109, 97, 105, 110]⟩ : ByteArray), .slice none 0 0] 24 (0, 0)) (kz_ BK196.out) hb)
       have n5_ := Aside0.mk (blk_below (g := gb206) (o := .cells #[.string t201, .slice Ao21 t202.length co21] 24 (0, 0)) (kz_ BK206.out) hb)
       have n6_ := Aside0.mk (below_step (bs2_ GE196.out GE206.out) hb)
       have n7_ := Aside0.mk (hbox)
       have n8_ := Aside0.mk ((by rw [hg]; exact (below_size (bs2_ GE196.out GE206.out)) : w.heap.size ≤ gb216))
       have n9_ := Aside0.mk ((by rw [hg]; exact (below_size (bs2_ GE196.out GE206.out)) : w.heap.size ≤ gb216))
       have n10_ := Aside0.mk ((by rw [hg]; exact Nat.ne_of_lt (blk_lt (g := gb196) (o := .cells #[.string (⟨#[104, 101, 97, 100, 115, 47, 109, 97, 105, 110]⟩ : ByteArray), .slice none 0 0] 24 (0, 0)) (kz_ BK196.out)) : gb196 ≠ gb216))
       have n11_ := Aside0.mk ((by rw [hg]; exact Nat.ne_of_gt (blk_lt (g := gb196) (o := .cells #[.string (⟨#[104, 101, 97, 100, 115, 47, 109, 97, 105, 110]⟩ : ByteArray), .slice none 0 0] 24 (0, 0)) (kz_ BK196.out)) : gb216 ≠ gb196))
       have n12_ := Aside0.mk ((by rw [hg]; exact Nat.ne_of_lt (blk_lt (g := gb206) (o := .cells #[.string t201, .slice Ao21 t202.length co21] 24 (0, 0)) (kz_ BK206.out)) : gb206 ≠ gb216))
       have n13_ := Aside0.mk ((by rw [hg]; exact Nat.ne_of_gt (blk_lt (g := gb206) (o := .cells #[.string t201, .slice Ao21 t202.length co21] 24 (0, 0)) (kz_ BK206.out)) : gb216 ≠ gb206))
       clear HO200
       clear HO204
       clear HO210
       clear HO214
       clear BK196
       clear BK206
       clear HB
       have HO200 := n0_
       have HO204 := n1_
       have HO210 := n2_
       have HO214 := n3_
       have BK196 := n4_
       have BK206 := n5_
       have HB := n6_
       have BK216 := n7_
       have GW216 := n8_
       have GE216 := n9_
       have NB196_216 := n10_
       have NB216_196 := n11_
       have NB206_216 := n12_
       have NB216_206 := n13_
       clear n0_ n1_ n2_ n3_ n4_ n5_ n6_ n7_ n8_ n9_ n10_ n11_ n12_ n13_
       clear hb hbox hg
       refine hK.out _ _ ⟨(blk_cell BK206.out 0).trans rfl, (blk_cell BK206.out 1).trans rfl⟩ (fun hHeld => ?_)
       clear hK K
       refine norm_ (a' := ?_) ?_ ?_
       rotate_left
       · show Act.put _ (some 5) _ = _
         simp only [Act.put, List.setIfInBounds_toArray, List.set_cons_zero, List.set_cons_succ, i64_w, i32_w]
         rfl
       exact norm_ (by simp only [putAll, Act.put, List.setIfInBounds_toArray, List.set_cons_zero, List.set_cons_succ]) (hCont (.slice Ao28 y208.length co28, v213, gb216) _ ⟨hHeld, (rz_ (Kd.R_mono HO200.out (fun _ hk => hk.2))), (by (with_reducible repeat (first | apply Kd.V_alloc | apply Kd.V_drewN | apply Kd.V_drew)); exact Kd.V_mono HO204.out (fun _ hk => ⟨hk.1.1.1, ⟨hk.1.2, ⟨hk.1.1.2.1, ⟨hk.1.1.2.2, hk.2⟩⟩⟩⟩)), (rz_ (Kd.R_mono HO210.out (fun _ hk => hk.2))), (by (with_reducible repeat (first | apply Kd.V_alloc | apply Kd.V_drewN | apply Kd.V_drew)); exact Kd.V_mono HO214.out (fun _ hk => ⟨hk.1.1, ⟨hk.1.2.1, ⟨hk.1.2.2.1, ⟨hk.1.2.2.2, hk.2⟩⟩⟩⟩)), (kz_ BK196.out), (kz_ BK206.out), (kz_ BK216.out), GW216.out, GE216.out, NB196_216.out, NB216_196.out, NB206_216.out, NB216_206.out, (bs3_ GE196.out GE206.out GE216.out)⟩)
      ·
       skip
       refine box_step ?hg (N := 5) ?hd (cs := #[.string (⟨#[]⟩ : ByteArray), .slice none 0 0]) (t := 24) ?hr ?_; (case hd => rfl); (case hg => rfl); (case hr => first | (go_simp; done) | (go_simp; rfl))
       intro gb216 hg w28 hbox hb
       have n0_ := Aside0.mk (Kd.R_below (rz_ HO200.out) hb)
       have n1_ := Aside0.mk (Kd.V_below (Kd.V_elderB (by (with_reducible repeat (first | apply Kd.V_alloc | apply Kd.V_drewN | apply Kd.V_drew)); exact HO204.out) gb216 (Nat.le_of_eq hg.symm)) hb)
       have n2_ := Aside0.mk (Kd.R_below (rz_ HO210.out) hb)
       have n3_ := Aside0.mk (blk_below (g := gb196) (o := .cells #[.string (⟨#[104, 101, 97, 100, 115, 47, 109, 97, 105, 110]⟩ : ByteArray), .slice none 0 0] 24 (0, 0)) (kz_ BK196.out) hb)
       have n4_ := Aside0.mk (blk_below (g := gb206) (o := .cells #[.string t201, .slice Ao21 t202.length co21] 24 (0, 0)) (kz_ BK206.out) hb)
       have n5_ := Aside0.mk (below_step (bs2_ GE196.out GE206.out) hb)
       have n6_ := Aside0.mk (hbox)
       have n7_ := Aside0.mk ((by rw [hg]; exact (below_size (bs2_ GE196.out GE206.out)) : w.heap.size ≤ gb216))
       have n8_ := Aside0.mk ((by rw [hg]; exact (below_size (bs2_ GE196.out GE206.out)) : w.heap.size ≤ gb216))
       have n9_ := Aside0.mk ((by rw [hg]; exact Nat.ne_of_lt (blk_lt (g := gb196) (o := .cells #[.string (⟨#[104, 101, 97, 100, 115, 47, 109, 97, 105, 110]⟩ : ByteArray), .slice none 0 0] 24 (0, 0)) (kz_ BK196.out)) : gb196 ≠ gb216))
       have n10_ := Aside0.mk ((by rw [hg]; exact Nat.ne_of_gt (blk_lt (g := gb196) (o := .cells #[.string (⟨#[104, 101, 97, 100, 115, 47, 109, 97, 105, 110]⟩ : ByteArray), .slice none 0 0] 24 (0, 0)) (kz_ BK196.out)) : gb216 ≠ gb196))
       have n11_ := Aside0.mk ((by rw [hg]; exact Nat.ne_of_lt (blk_lt (g := gb206) (o := .cells #[.string t201, .slice Ao21 t202.length co21] 24 (0, 0)) (kz_ BK206.out)) : gb206 ≠ gb216))
       have n12_ := Aside0.mk ((by rw [hg]; exact Nat.ne_of_gt (blk_lt (g := gb206) (o := .cells #[.string t201, .slice Ao21 t202.length co21] 24 (0, 0)) (kz_ BK206.out)) : gb216 ≠ gb206))
       clear HO200
       clear HO204
       clear HO210
       clear BK196
       clear BK206
       clear HB
       have HO200 := n0_
       have HO204 := n1_
       have HO210 := n2_
       have BK196 := n3_
       have BK206 := n4_
       have HB := n5_
       have BK216 := n6_
       have GW216 := n7_
       have GE216 := n8_
       have NB196_216 := n9_
       have NB216_196 := n10_
       have NB206_216 := n11_
       have NB216_206 := n12_
       clear n0_ n1_ n2_ n3_ n4_ n5_ n6_ n7_ n8_ n9_ n10_ n11_ n12_
       clear hb hbox hg
       obtain ⟨Ao29, co29, eo29⟩ := Kd.R_slice HO210.out
       (first | subst eo29 | (injection eo29 with f1_ f2_ f3_; have f4_ := f1_.symm; have f5_ := f3_.symm; clear f1_ f2_ f3_; subst f4_; subst f5_))
       refine hK.out _ _ ⟨(blk_cell BK206.out 0).trans rfl, (blk_cell BK206.out 1).trans rfl⟩ (fun hHeld => ?_)
       clear hK K
       refine norm_ (a' := ?_) ?_ ?_
       rotate_left
       · show Act.put _ (some 5) _ = _
         simp only [Act.put, List.setIfInBounds_toArray, List.set_cons_zero, List.set_cons_succ, i64_w, i32_w]
         rfl
       refine one_ (i := 5) (N := some 23) #[true, true, true, true, true, true, false, false, false, true, false, false] rfl rfl (one_of HT_.out (by kernel_rfl)) (by decide) (fun K hK => ?_)
       refine goes_ Try.func8 (by kernel_rfl) rfl #[.agg #[.string t201, .slice Ao21 t202.length co21], .slice Ao29 y208.length co29, .func (.func 30) #[] #[]] (by rfl) rfl rfl (by (try simp only [List.map_toArray, List.map_cons, List.map_nil]); first | done | rfl | (simp only [List.length_drop, List.length_take]; rfl)) ?_
       with_reducible refine (refs_Apply.calls k t201 (fun k_ => (((some k_ ≠ (v199 : Value).ownBlock ∧ (k_ ≠ gb196 ∧ k_ ≠ gb206)) ∧ some k_ ≠ (.slice Ao29 y208.length co29 : Value).ownBlock) ∧ k_ ≠ gb216)) _ _ t202 _ _ y208 t211 t212 t215 _ ?side1 ?side2 ?side3 A4.out).mono ?_
       (case side1 => exact HO204.out)
       (case side2 => repeat (first | exact (Kd.R_reads' HO210.out).2.2 | (with_reducible refine Kd.C_alloc ?_ _) | (with_reducible refine Kd.C_drewN ?_ _) | (with_reducible refine Kd.C_drew ?_)))
       (case side3 => exact (Kd.R_reads' HO210.out).2.1)
       rintro e w30 ⟨v213, rfl, ho0, hb⟩
       refine ⟨_, rfl, ?_⟩
       have n0_ := Aside0.mk (Kd.R_below (rz_ HO200.out) hb)
       have n1_ := Aside0.mk (Kd.V_below (by (with_reducible repeat (first | apply Kd.V_alloc | apply Kd.V_drewN | apply Kd.V_drew)); exact HO204.out) hb)
       have n2_ := Aside0.mk (Kd.R_below (rz_ HO210.out) hb)
       have n3_ := Aside0.mk (Kd.V_lower (Kd.V_mono (ok' := fun k_ => some k_ ≠ (v199 : Value).ownBlock ∧ some k_ ≠ (.slice Ao29 y208.length co29 : Value).ownBlock ∧ k_ ≠ gb196 ∧ k_ ≠ gb206 ∧ k_ ≠ gb216) ho0 (fun k_ hk_ => ⟨Or.elim hk_ (fun hs_ => hs_.1.1.1) (fun hn_ => (Kd.fresh' (Kd.R_lt (rz_ HO200.out)) k_ hn_)), Or.elim hk_ (fun hs_ => hs_.1.2) (fun hn_ => (Kd.fresh' (Kd.R_lt (rz_ HO210.out)) k_ hn_)), Or.elim hk_ (fun hs_ => hs_.1.1.2.1) (fun hn_ => (Kd.freshB (g := gb196) (o := .cells #[.string (⟨#[104, 101, 97, 100, 115, 47, 109, 97, 105, 110]⟩ : ByteArray), .slice none 0 0] 24 (0, 0)) (kz_ BK196.out) k_ hn_)), Or.elim hk_ (fun hs_ => hs_.1.1.2.2) (fun hn_ => (Kd.freshB (g := gb206) (o := .cells #[.string t201, .slice Ao21 t202.length co21] 24 (0, 0)) (kz_ BK206.out) k_ hn_)), Or.elim hk_ (fun hs_ => hs_.2) (fun hn_ => (Kd.freshB (g := gb216) (o := .cells #[.string (⟨#[]⟩ : ByteArray), .slice none 0 0] 24 (0, 0)) (kz_ BK216.out) k_ hn_))⟩)) (below_size (bs3_ GE196.out GE206.out GE216.out)))
       have n4_ := Aside0.mk (blk_below (g := gb196) (o := .cells #[.string (⟨#[104, 101, 97, 100, 115, 47, 109, 97, 105, 110]⟩ : ByteArray), .slice none 0 0] 24 (0, 0)) (kz_ BK196.out) hb)
       have n5_ := Aside0.mk (blk_below (g := gb206) (o := .cells #[.string t201, .slice Ao21 t202.length co21] 24 (0, 0)) (kz_ BK206.out) hb)
       have n6_ := Aside0.mk (blk_below (g := gb216) (o := .cells #[.string (⟨#[]⟩ : ByteArray), .slice none 0 0] 24 (0, 0)) (kz_ BK216.out) hb)
       have n7_ := Aside0.mk (below_step (bs3_ GE196.out GE206.out GE216.out) hb)
       clear HO200
       clear HO204
       clear HO210
       clear BK196
       clear BK206
       clear BK216
       clear HB
       have HO200 := n0_
       have HO204 := n1_
       have HO210 := n2_
       have HO214 := n3_
       have BK196 := n4_
       have BK206 := n5_
       have BK216 := n6_
       have HB := n7_
       clear n0_ n1_ n2_ n3_ n4_ n5_ n6_ n7_
       (try clear hb)
       (try clear hb2)
       (try clear hk)
       (try clear hi)
       (try clear ho0)
       refine hK.out _ _ ⟨(blk_cell BK206.out 0).trans rfl, (blk_cell BK206.out 1).trans rfl⟩ (fun hHeld => ?_)
       clear hK K
       refine norm_ (a' := ?_) ?_ ?_
       rotate_left
       · show Act.put _ (some 23) _ = _
         simp only [Act.put, List.setIfInBounds_toArray, List.set_cons_zero, List.set_cons_succ, i64_w, i32_w]
         rfl
       refine pure_ (i := 6) (N := some 17) (v := ?_) (a' := ?_) #[true, true, true, true, true, true, true, false, false, true, false, false] rfl rfl (any_of HT_.out (by kernel_rfl)) (fun _ _ _ h => h) (Or.inl ⟨by rfl, ?_⟩) ?_ ?_
       rotate_left
       · intro w'
         go_simp
         with_reducible rfl
       rotate_left
       · simp only [Act.put, List.setIfInBounds_toArray, List.set_cons_zero, List.set_cons_succ, i64_w, i32_w]
         rfl
       refine pure_ (i := 7) (N := some 24) (v := ?_) (a' := ?_) #[true, true, true, true, true, true, true, true, false, true, false, false] rfl rfl (any_of HT_.out (by kernel_rfl)) (fun _ _ _ h => h) (Or.inl ⟨by rfl, ?_⟩) ?_ ?_
       rotate_left
       · intro w'
         go_simp
         with_reducible rfl
       rotate_left
       · simp only [Act.put, List.setIfInBounds_toArray, List.set_cons_zero, List.set_cons_succ, i64_w, i32_w]
         rfl
       refine pure_ (i := 8) (N := some 25) (v := ?_) (a' := ?_) #[true, true, true, true, true, true, true, true, true, true, false, false] rfl rfl (any_of HT_.out (by kernel_rfl)) (fun _ _ _ h => h) (Or.inl ⟨by rfl, ?_⟩) ?_ ?_
       rotate_left
       · intro w'
         go_simp
         with_reducible rfl
       rotate_left
       · simp only [Act.put, List.setIfInBounds_toArray, List.set_cons_zero, List.set_cons_succ, i64_w, i32_w]
         rfl
       exact norm_ (by simp only [putAll, Act.put, List.setIfInBounds_toArray, List.set_cons_zero, List.set_cons_succ]) (hCont (.slice Ao29 y208.length co29, v213, gb216) _ ⟨hHeld, (rz_ (Kd.R_mono HO200.out (fun _ hk => hk.2))), (by (with_reducible repeat (first | apply Kd.V_alloc | apply Kd.V_drewN | apply Kd.V_drew)); exact Kd.V_mono HO204.out (fun _ hk => ⟨hk.1.1.1, ⟨hk.1.2, ⟨hk.1.1.2.1, ⟨hk.1.1.2.2, hk.2⟩⟩⟩⟩)), (rz_ (Kd.R_mono HO210.out (fun _ hk => hk.2))), (by (with_reducible repeat (first | apply Kd.V_alloc | apply Kd.V_drewN | apply Kd.V_drew)); exact HO214.out), (kz_ BK196.out), (kz_ BK206.out), (kz_ BK216.out), GW216.out, GE216.out, NB196_216.out, NB216_196.out, NB206_216.out, NB216_206.out, (bs3_ GE196.out GE206.out GE216.out)⟩)
     ·
      skip
      refine box_step ?hg (N := 5) ?hd (cs := #[.string (⟨#[]⟩ : ByteArray), .slice none 0 0]) (t := 24) ?hr ?_; (case hd => rfl); (case hg => rfl); (case hr => first | (go_simp; done) | (go_simp; rfl))
      intro gb216 hg w26 hbox hb
      have n0_ := Aside0.mk (Kd.R_below (rz_ HO200.out) hb)
      have n1_ := Aside0.mk (Kd.V_below (Kd.V_elderB (by (with_reducible repeat (first | apply Kd.V_alloc | apply Kd.V_drewN | apply Kd.V_drew)); exact HO204.out) gb216 (Nat.le_of_eq hg.symm)) hb)
      have n2_ := Aside0.mk (blk_below (g := gb196) (o := .cells #[.string (⟨#[104, 101, 97, 100, 115, 47, 109, 97, 105, 110]⟩ : ByteArray), .slice none 0 0] 24 (0, 0)) (kz_ BK196.out) hb)
      have n3_ := Aside0.mk (blk_below (g := gb206) (o := .cells #[.string t201, .slice Ao21 t202.length co21] 24 (0, 0)) (kz_ BK206.out) hb)
      have n4_ := Aside0.mk (below_step (bs2_ GE196.out GE206.out) hb)
      have n5_ := Aside0.mk (hbox)
      have n6_ := Aside0.mk ((by rw [hg]; exact (below_size (bs2_ GE196.out GE206.out)) : w.heap.size ≤ gb216))
      have n7_ := Aside0.mk ((by rw [hg]; exact (below_size (bs2_ GE196.out GE206.out)) : w.heap.size ≤ gb216))
      have n8_ := Aside0.mk ((by rw [hg]; exact Nat.ne_of_lt (blk_lt (g := gb196) (o := .cells #[.string (⟨#[104, 101, 97, 100, 115, 47, 109, 97, 105, 110]⟩ : ByteArray), .slice none 0 0] 24 (0, 0)) (kz_ BK196.out)) : gb196 ≠ gb216))
      have n9_ := Aside0.mk ((by rw [hg]; exact Nat.ne_of_gt (blk_lt (g := gb196) (o := .cells #[.string (⟨#[104, 101, 97, 100, 115, 47, 109, 97, 105, 110]⟩ : ByteArray), .slice none 0 0] 24 (0, 0)) (kz_ BK196.out)) : gb216 ≠ gb196))
      have n10_ := Aside0.mk ((by rw [hg]; exact Nat.ne_of_lt (blk_lt (g := gb206) (o := .cells #[.string t201, .slice Ao21 t202.length co21] 24 (0, 0)) (kz_ BK206.out)) : gb206 ≠ gb216))
      have n11_ := Aside0.mk ((by rw [hg]; exact Nat.ne_of_gt (blk_lt (g := gb206) (o := .cells #[.string t201, .slice Ao21 t202.length co21] 24 (0, 0)) (kz_ BK206.out)) : gb216 ≠ gb206))
      clear HO200
      clear HO204
      clear BK196
      clear BK206
      clear HB
      have HO200 := n0_
      have HO204 := n1_
      have BK196 := n2_
      have BK206 := n3_
      have HB := n4_
      have BK216 := n5_
      have GW216 := n6_
      have GE216 := n7_
      have NB196_216 := n8_
      have NB216_196 := n9_
      have NB206_216 := n10_
      have NB216_206 := n11_
      clear n0_ n1_ n2_ n3_ n4_ n5_ n6_ n7_ n8_ n9_ n10_ n11_
      clear hb hbox hg
      refine hK.out _ _ ⟨(blk_cell BK206.out 0).trans rfl, (blk_cell BK206.out 1).trans rfl⟩ (fun hHeld => ?_)
      clear hK K
      refine norm_ (a' := ?_) ?_ ?_
      rotate_left
      · show Act.put _ (some 5) _ = _
        simp only [Act.put, List.setIfInBounds_toArray, List.set_cons_zero, List.set_cons_succ, i64_w, i32_w]
        rfl
      refine one_ (i := 3) (N := some 21) #[true, true, true, true, true, false, false, false, false, true, false, false] rfl rfl (one_of HT_.out (by kernel_rfl)) (by decide) (fun K hK => ?_)
      refine Kd.R_lit_step k34 _ 34 ?hg (N := 21) ?hd (xs := ([(⟨(⟨#[104, 101, 97, 100, 115, 47, 109, 97, 105, 110]⟩ : ByteArray), (⟨#[]⟩ : ByteArray), t207, false⟩ : S34)] : List (S34))) (inner := [.string (⟨#[104, 101, 97, 100, 115, 47, 109, 97, 105, 110]⟩ : ByteArray), .string (⟨#[]⟩ : ByteArray), .string t207, .bool false]) (ok := fun _ => True) (okp := fun _ => True) ?hr ?hp (fun _ hk => hk) trivial (Below.refl _ _) (Nat.le_refl _) (by simp) ?_; (case hd => rfl); (case hg => rfl); (case hr => first | (go_simp; done) | (go_simp; rfl)); (case hp => exact (Reps.c4 (show Kd.M k34 _ _ _ (⟨(⟨#[104, 101, 97, 100, 115, 47, 109, 97, 105, 110]⟩ : ByteArray), (⟨#[]⟩ : ByteArray), t207, false⟩ : S34) [.string (⟨#[104, 101, 97, 100, 115, 47, 109, 97, 105, 110]⟩ : ByteArray), .string (⟨#[]⟩ : ByteArray), .string t207, .bool false] from (k34_mkM _ _ _ (⟨(⟨#[104, 101, 97, 100, 115, 47, 109, 97, 105, 110]⟩ : ByteArray), (⟨#[]⟩ : ByteArray), t207, false⟩ : S34) )) (Reps.none _ _)))
      intro v209 w27 ho28 hb hg_ hnew_
      clear hg_ hnew_
      (first | rw [← Ny208.out] at ho28 | (simp only [Int.reduceToNat] at ho28; rw [← Ny208.out] at ho28))
      have n0_ := Aside0.mk (Kd.R_elder' (rz_ HO200.out) (Kd.R_base ho28) hb)
      have n1_ := Aside0.mk (Kd.V_elder' (by (with_reducible repeat (first | apply Kd.V_alloc | apply Kd.V_drewN | apply Kd.V_drew)); exact HO204.out) (Kd.R_base ho28) hb)
      have n2_ := Aside0.mk (Kd.R_lower (Kd.R_new' ho28 (Kd.R_lt (rz_ HO200.out))) (below_size (bs3_ GE196.out GE206.out GE216.out)))
      have n3_ := Aside0.mk (blk_below (g := gb196) (o := .cells #[.string (⟨#[104, 101, 97, 100, 115, 47, 109, 97, 105, 110]⟩ : ByteArray), .slice none 0 0] 24 (0, 0)) (kz_ BK196.out) hb)
      have n4_ := Aside0.mk (blk_below (g := gb206) (o := .cells #[.string t201, .slice Ao21 t202.length co21] 24 (0, 0)) (kz_ BK206.out) hb)
      have n5_ := Aside0.mk (blk_below (g := gb216) (o := .cells #[.string (⟨#[]⟩ : ByteArray), .slice none 0 0] 24 (0, 0)) (kz_ BK216.out) hb)
      have n6_ := Aside0.mk (below_step (bs3_ GE196.out GE206.out GE216.out) hb)
      clear HO200
      clear HO204
      clear BK196
      clear BK206
      clear BK216
      clear HB
      have HO200 := n0_
      have HO204 := n1_
      have HO210 := n2_
      have BK196 := n3_
      have BK206 := n4_
      have BK216 := n5_
      have HB := n6_
      clear n0_ n1_ n2_ n3_ n4_ n5_ n6_
      clear hb ho28
      obtain ⟨Ao29, co29, eo29⟩ := Kd.R_slice HO210.out
      (first | subst eo29 | (injection eo29 with f1_ f2_ f3_; have f4_ := f1_.symm; have f5_ := f3_.symm; clear f1_ f2_ f3_; subst f4_; subst f5_))
      refine hK.out _ _ ⟨(blk_cell BK206.out 0).trans rfl, (blk_cell BK206.out 1).trans rfl⟩ (fun hHeld => ?_)
      clear hK K
      refine norm_ (a' := ?_) ?_ ?_
      rotate_left
      · show Act.put _ (some 21) _ = _
        simp only [Act.put, List.setIfInBounds_toArray, List.set_cons_zero, List.set_cons_succ, i64_w, i32_w]
        rfl
      refine one_ (i := 5) (N := some 23) #[true, true, true, true, true, true, false, false, false, true, false, false] rfl rfl (one_of HT_.out (by kernel_rfl)) (by decide) (fun K hK => ?_)
      refine goes_ Try.func8 (by kernel_rfl) rfl #[.agg #[.string t201, .slice Ao21 t202.length co21], .slice Ao29 y208.length co29, .func (.func 30) #[] #[]] (by rfl) rfl rfl (by (try simp only [List.map_toArray, List.map_cons, List.map_nil]); first | done | rfl | (simp only [List.length_drop, List.length_take]; rfl)) ?_
      with_reducible refine (refs_Apply.calls k t201 (fun k_ => (((some k_ ≠ (v199 : Value).ownBlock ∧ (k_ ≠ gb196 ∧ k_ ≠ gb206)) ∧ k_ ≠ gb216) ∧ some k_ ≠ (.slice Ao29 y208.length co29 : Value).ownBlock)) _ _ t202 _ _ y208 t211 t212 t215 _ ?side1 ?side2 ?side3 A4.out).mono ?_
      (case side1 => exact HO204.out)
      (case side2 => repeat (first | exact (Kd.R_reads' HO210.out).2.2 | (with_reducible refine Kd.C_alloc ?_ _) | (with_reducible refine Kd.C_drewN ?_ _) | (with_reducible refine Kd.C_drew ?_)))
      (case side3 => exact (Kd.R_reads' HO210.out).2.1)
      rintro e w30 ⟨v213, rfl, ho0, hb⟩
      refine ⟨_, rfl, ?_⟩
      have n0_ := Aside0.mk (Kd.R_below (rz_ HO200.out) hb)
      have n1_ := Aside0.mk (Kd.V_below (by (with_reducible repeat (first | apply Kd.V_alloc | apply Kd.V_drewN | apply Kd.V_drew)); exact HO204.out) hb)
      have n2_ := Aside0.mk (Kd.R_below (rz_ HO210.out) hb)
      have n3_ := Aside0.mk (Kd.V_lower (Kd.V_mono (ok' := fun k_ => some k_ ≠ (v199 : Value).ownBlock ∧ some k_ ≠ (.slice Ao29 y208.length co29 : Value).ownBlock ∧ k_ ≠ gb196 ∧ k_ ≠ gb206 ∧ k_ ≠ gb216) ho0 (fun k_ hk_ => ⟨Or.elim hk_ (fun hs_ => hs_.1.1.1) (fun hn_ => (Kd.fresh' (Kd.R_lt (rz_ HO200.out)) k_ hn_)), Or.elim hk_ (fun hs_ => hs_.2) (fun hn_ => (Kd.fresh' (Kd.R_lt (rz_ HO210.out)) k_ hn_)), Or.elim hk_ (fun hs_ => hs_.1.1.2.1) (fun hn_ => (Kd.freshB (g := gb196) (o := .cells #[.string (⟨#[104, 101, 97, 100, 115, 47, 109, 97, 105, 110]⟩ : ByteArray), .slice none 0 0] 24 (0, 0)) (kz_ BK196.out) k_ hn_)), Or.elim hk_ (fun hs_ => hs_.1.1.2.2) (fun hn_ => (Kd.freshB (g := gb206) (o := .cells #[.string t201, .slice Ao21 t202.length co21] 24 (0, 0)) (kz_ BK206.out) k_ hn_)), Or.elim hk_ (fun hs_ => hs_.1.2) (fun hn_ => (Kd.freshB (g := gb216) (o := .cells #[.string (⟨#[]⟩ : ByteArray), .slice none 0 0] 24 (0, 0)) (kz_ BK216.out) k_ hn_))⟩)) (below_size (bs3_ GE196.out GE206.out GE216.out)))
      have n4_ := Aside0.mk (blk_below (g := gb196) (o := .cells #[.string (⟨#[104, 101, 97, 100, 115, 47, 109, 97, 105, 110]⟩ : ByteArray), .slice none 0 0] 24 (0, 0)) (kz_ BK196.out) hb)
      have n5_ := Aside0.mk (blk_below (g := gb206) (o := .cells #[.string t201, .slice Ao21 t202.length co21] 24 (0, 0)) (kz_ BK206.out) hb)
      have n6_ := Aside0.mk (blk_below (g := gb216) (o := .cells #[.string (⟨#[]⟩ : ByteArray), .slice none 0 0] 24 (0, 0)) (kz_ BK216.out) hb)
      have n7_ := Aside0.mk (below_step (bs3_ GE196.out GE206.out GE216.out) hb)
      clear HO200
      clear HO204
      clear HO210
      clear BK196
      clear BK206
      clear BK216
      clear HB
      have HO200 := n0_
      have HO204 := n1_
      have HO210 := n2_
      have HO214 := n3_
      have BK196 := n4_
      have BK206 := n5_
      have BK216 := n6_
      have HB := n7_
      clear n0_ n1_ n2_ n3_ n4_ n5_ n6_ n7_
      (try clear hb)
      (try clear hb2)
      (try clear hk)
      (try clear hi)
      (try clear ho0)
      refine hK.out _ _ ⟨(blk_cell BK206.out 0).trans rfl, (blk_cell BK206.out 1).trans rfl⟩ (fun hHeld => ?_)
      clear hK K
      refine norm_ (a' := ?_) ?_ ?_
      rotate_left
      · show Act.put _ (some 23) _ = _
        simp only [Act.put, List.setIfInBounds_toArray, List.set_cons_zero, List.set_cons_succ, i64_w, i32_w]
        rfl
      refine pure_ (i := 6) (N := some 17) (v := ?_) (a' := ?_) #[true, true, true, true, true, true, true, false, false, true, false, false] rfl rfl (any_of HT_.out (by kernel_rfl)) (fun _ _ _ h => h) (Or.inl ⟨by rfl, ?_⟩) ?_ ?_
      rotate_left
      · intro w'
        go_simp
        with_reducible rfl
      rotate_left
      · simp only [Act.put, List.setIfInBounds_toArray, List.set_cons_zero, List.set_cons_succ, i64_w, i32_w]
        rfl
      refine pure_ (i := 7) (N := some 24) (v := ?_) (a' := ?_) #[true, true, true, true, true, true, true, true, false, true, false, false] rfl rfl (any_of HT_.out (by kernel_rfl)) (fun _ _ _ h => h) (Or.inl ⟨by rfl, ?_⟩) ?_ ?_
      rotate_left
      · intro w'
        go_simp
        with_reducible rfl
      rotate_left
      · simp only [Act.put, List.setIfInBounds_toArray, List.set_cons_zero, List.set_cons_succ, i64_w, i32_w]
        rfl
      refine pure_ (i := 8) (N := some 25) (v := ?_) (a' := ?_) #[true, true, true, true, true, true, true, true, true, true, false, false] rfl rfl (any_of HT_.out (by kernel_rfl)) (fun _ _ _ h => h) (Or.inl ⟨by rfl, ?_⟩) ?_ ?_
      rotate_left
      · intro w'
        go_simp
        with_reducible rfl
      rotate_left
      · simp only [Act.put, List.setIfInBounds_toArray, List.set_cons_zero, List.set_cons_succ, i64_w, i32_w]
        rfl
      exact norm_ (by simp only [putAll, Act.put, List.setIfInBounds_toArray, List.set_cons_zero, List.set_cons_succ]) (hCont (.slice Ao29 y208.length co29, v213, gb216) _ ⟨hHeld, (rz_ (Kd.R_mono HO200.out (fun _ hk => hk.2))), (by (with_reducible repeat (first | apply Kd.V_alloc | apply Kd.V_drewN | apply Kd.V_drew)); exact Kd.V_mono HO204.out (fun _ hk => ⟨hk.1.1.1, ⟨hk.2, ⟨hk.1.1.2.1, ⟨hk.1.1.2.2, hk.1.2⟩⟩⟩⟩)), (rz_ (Kd.R_mono HO210.out (fun _ hk => hk.2))), (by (with_reducible repeat (first | apply Kd.V_alloc | apply Kd.V_drewN | apply Kd.V_drew)); exact HO214.out), (kz_ BK196.out), (kz_ BK206.out), (kz_ BK216.out), GW216.out, GE216.out, NB196_216.out, NB216_196.out, NB206_216.out, NB216_206.out, (bs3_ GE196.out GE206.out GE216.out)⟩)
    ·
     skip
     refine box_step ?hg (N := 5) ?hd (cs := #[.string (⟨#[]⟩ : ByteArray), .slice none 0 0]) (t := 24) ?hr ?_; (case hd => rfl); (case hg => rfl); (case hr => first | (go_simp; done) | (go_simp; rfl))
     intro gb216 hg w25 hbox hb
     have n0_ := Aside0.mk (Kd.R_below (rz_ HO200.out) hb)
     have n1_ := Aside0.mk (Kd.V_below (Kd.V_elderB (by (with_reducible repeat (first | apply Kd.V_alloc | apply Kd.V_drewN | apply Kd.V_drew)); exact HO204.out) gb216 (Nat.le_of_eq hg.symm)) hb)
     have n2_ := Aside0.mk (blk_below (g := gb196) (o := .cells #[.string (⟨#[104, 101, 97, 100, 115, 47, 109, 97, 105, 110]⟩ : ByteArray), .slice none 0 0] 24 (0, 0)) (kz_ BK196.out) hb)
     have n3_ := Aside0.mk (blk_below (g := gb206) (o := .cells #[.string t201, .slice Ao21 t202.length co21] 24 (0, 0)) (kz_ BK206.out) hb)
     have n4_ := Aside0.mk (below_step (bs2_ GE196.out GE206.out) hb)
     have n5_ := Aside0.mk (hbox)
     have n6_ := Aside0.mk ((by rw [hg]; exact (below_size (bs2_ GE196.out GE206.out)) : w.heap.size ≤ gb216))
     have n7_ := Aside0.mk ((by rw [hg]; exact (below_size (bs2_ GE196.out GE206.out)) : w.heap.size ≤ gb216))
     have n8_ := Aside0.mk ((by rw [hg]; exact Nat.ne_of_lt (blk_lt (g := gb196) (o := .cells #[.string (⟨#[104, 101, 97, 100, 115, 47, 109, 97, 105, 110]⟩ : ByteArray), .slice none 0 0] 24 (0, 0)) (kz_ BK196.out)) : gb196 ≠ gb216))
     have n9_ := Aside0.mk ((by rw [hg]; exact Nat.ne_of_gt (blk_lt (g := gb196) (o := .cells #[.string (⟨#[104, 101, 97, 100, 115, 47, 109, 97, 105, 110]⟩ : ByteArray), .slice none 0 0] 24 (0, 0)) (kz_ BK196.out)) : gb216 ≠ gb196))
     have n10_ := Aside0.mk ((by rw [hg]; exact Nat.ne_of_lt (blk_lt (g := gb206) (o := .cells #[.string t201, .slice Ao21 t202.length co21] 24 (0, 0)) (kz_ BK206.out)) : gb206 ≠ gb216))
     have n11_ := Aside0.mk ((by rw [hg]; exact Nat.ne_of_gt (blk_lt (g := gb206) (o := .cells #[.string t201, .slice Ao21 t202.length co21] 24 (0, 0)) (kz_ BK206.out)) : gb216 ≠ gb206))
     clear HO200
     clear HO204
     clear BK196
     clear BK206
     clear HB
     have HO200 := n0_
     have HO204 := n1_
     have BK196 := n2_
     have BK206 := n3_
     have HB := n4_
     have BK216 := n5_
     have GW216 := n6_
     have GE216 := n7_
     have NB196_216 := n8_
     have NB216_196 := n9_
     have NB206_216 := n10_
     have NB216_206 := n11_
     clear n0_ n1_ n2_ n3_ n4_ n5_ n6_ n7_ n8_ n9_ n10_ n11_
     clear hb hbox hg
     refine hK.out _ _ ⟨(blk_cell BK206.out 0).trans rfl, (blk_cell BK206.out 1).trans rfl⟩ (fun hHeld => ?_)
     clear hK K
     refine norm_ (a' := ?_) ?_ ?_
     rotate_left
     · show Act.put _ (some 5) _ = _
       simp only [Act.put, List.setIfInBounds_toArray, List.set_cons_zero, List.set_cons_succ, i64_w, i32_w]
       rfl
     refine one_ (i := 1) (N := some 19) #[true, true, false, false, true, false, false, false, false, true, false, false] rfl rfl (one_of HT_.out (by kernel_rfl)) (by decide) (fun K hK => ?_)
     refine goes_ Try.func14 (by kernel_rfl) rfl #[.int .u8 98] (by rfl) rfl rfl (by (try simp only [List.map_toArray, List.map_cons, List.map_nil]); first | done | rfl | (simp only [List.length_drop, List.length_take]; rfl)) ?_
     with_reducible refine (pollardlaw13_id.calls k 98 t207 _ A3.out).mono ?_
     rintro e w26 ⟨rfl, hb⟩
     refine ⟨_, rfl, ?_⟩
     have n0_ := Aside0.mk (Kd.R_below (rz_ HO200.out) hb)
     have n1_ := Aside0.mk (Kd.V_below (by (with_reducible repeat (first | apply Kd.V_alloc | apply Kd.V_drewN | apply Kd.V_drew)); exact HO204.out) hb)
     have n2_ := Aside0.mk (blk_below (g := gb196) (o := .cells #[.string (⟨#[104, 101, 97, 100, 115, 47, 109, 97, 105, 110]⟩ : ByteArray), .slice none 0 0] 24 (0, 0)) (kz_ BK196.out) hb)
     have n3_ := Aside0.mk (blk_below (g := gb206) (o := .cells #[.string t201, .slice Ao21 t202.length co21] 24 (0, 0)) (kz_ BK206.out) hb)
     have n4_ := Aside0.mk (blk_below (g := gb216) (o := .cells #[.string (⟨#[]⟩ : ByteArray), .slice none 0 0] 24 (0, 0)) (kz_ BK216.out) hb)
     have n5_ := Aside0.mk (below_step (bs3_ GE196.out GE206.out GE216.out) hb)
     clear HO200
     clear HO204
     clear BK196
     clear BK206
     clear BK216
     clear HB
     have HO200 := n0_
     have HO204 := n1_
     have BK196 := n2_
     have BK206 := n3_
     have BK216 := n4_
     have HB := n5_
     clear n0_ n1_ n2_ n3_ n4_ n5_
     (try clear hb)
     (try clear hb2)
     (try clear hk)
     (try clear hi)
     refine hK.out _ _ ⟨(blk_cell BK206.out 0).trans rfl, (blk_cell BK206.out 1).trans rfl⟩ (fun hHeld => ?_)
     clear hK K
     refine norm_ (a' := ?_) ?_ ?_
     rotate_left
     · show Act.put _ (some 19) _ = _
       simp only [Act.put, List.setIfInBounds_toArray, List.set_cons_zero, List.set_cons_succ, i64_w, i32_w]
       rfl
     refine pure_ (i := 2) (N := some 20) (v := ?_) (a' := ?_) #[true, true, true, false, true, false, false, false, false, true, false, false] rfl rfl (any_of HT_.out (by kernel_rfl)) (fun _ _ _ h => h) (Or.inl ⟨by rfl, ?_⟩) ?_ ?_
     rotate_left
     · intro w'
       go_simp
       with_reducible rfl
     rotate_left
     · simp only [Act.put, List.setIfInBounds_toArray, List.set_cons_zero, List.set_cons_succ, i64_w, i32_w]
       rfl
     refine one_ (i := 3) (N := some 21) #[true, true, true, true, true, false, false, false, false, true, false, false] rfl rfl (one_of HT_.out (by kernel_rfl)) (by decide) (fun K hK => ?_)
     refine Kd.R_lit_step k34 _ 34 ?hg (N := 21) ?hd (xs := ([(⟨(⟨#[104, 101, 97, 100, 115, 47, 109, 97, 105, 110]⟩ : ByteArray), (⟨#[]⟩ : ByteArray), t207, false⟩ : S34)] : List (S34))) (inner := [.string (⟨#[104, 101, 97, 100, 115, 47, 109, 97, 105, 110]⟩ : ByteArray), .string (⟨#[]⟩ : ByteArray), .string t207, .bool false]) (ok := fun _ => True) (okp := fun _ => True) ?hr ?hp (fun _ hk => hk) trivial (Below.refl _ _) (Nat.le_refl _) (by simp) ?_; (case hd => rfl); (case hg => rfl); (case hr => first | (go_simp; done) | (go_simp; rfl)); (case hp => exact (Reps.c4 (show Kd.M k34 _ _ _ (⟨(⟨#[104, 101, 97, 100, 115, 47, 109, 97, 105, 110]⟩ : ByteArray), (⟨#[]⟩ : ByteArray), t207, false⟩ : S34) [.string (⟨#[104, 101, 97, 100, 115, 47, 109, 97, 105, 110]⟩ : ByteArray), .string (⟨#[]⟩ : ByteArray), .string t207, .bool false] from (k34_mkM _ _ _ (⟨(⟨#[104, 101, 97, 100, 115, 47, 109, 97, 105, 110]⟩ : ByteArray), (⟨#[]⟩ : ByteArray), t207, false⟩ : S34) )) (Reps.none _ _)))
     intro v209 w27 ho28 hb hg_ hnew_
     clear hg_ hnew_
     (first | rw [← Ny208.out] at ho28 | (simp only [Int.reduceToNat] at ho28; rw [← Ny208.out] at ho28))
     have n0_ := Aside0.mk (Kd.R_elder' (rz_ HO200.out) (Kd.R_base ho28) hb)
     have n1_ := Aside0.mk (Kd.V_elder' (by (with_reducible repeat (first | apply Kd.V_alloc | apply Kd.V_drewN | apply Kd.V_drew)); exact HO204.out) (Kd.R_base ho28) hb)
     have n2_ := Aside0.mk (Kd.R_lower (Kd.R_new' ho28 (Kd.R_lt (rz_ HO200.out))) (below_size (bs3_ GE196.out GE206.out GE216.out)))
     have n3_ := Aside0.mk (blk_below (g := gb196) (o := .cells #[.string (⟨#[104, 101, 97, 100, 115, 47, 109, 97, 105, 110]⟩ : ByteArray), .slice none 0 0] 24 (0, 0)) (kz_ BK196.out) hb)
     have n4_ := Aside0.mk (blk_below (g := gb206) (o := .cells #[.string t201, .slice Ao21 t202.length co21] 24 (0, 0)) (kz_ BK206.out) hb)
     have n5_ := Aside0.mk (blk_below (g := gb216) (o := .cells #[.string (⟨#[]⟩ : ByteArray), .slice none 0 0] 24 (0, 0)) (kz_ BK216.out) hb)
     have n6_ := Aside0.mk (below_step (bs3_ GE196.out GE206.out GE216.out) hb)
     clear HO200
     clear HO204
     clear BK196
     clear BK206
     clear BK216
     clear HB
     have HO200 := n0_
     have HO204 := n1_
     have HO210 := n2_
     have BK196 := n3_
     have BK206 := n4_
     have BK216 := n5_
     have HB := n6_
     clear n0_ n1_ n2_ n3_ n4_ n5_ n6_
     clear hb ho28
     obtain ⟨Ao29, co29, eo29⟩ := Kd.R_slice HO210.out
     (first | subst eo29 | (injection eo29 with f1_ f2_ f3_; have f4_ := f1_.symm; have f5_ := f3_.symm; clear f1_ f2_ f3_; subst f4_; subst f5_))
     refine hK.out _ _ ⟨(blk_cell BK206.out 0).trans rfl, (blk_cell BK206.out 1).trans rfl⟩ (fun hHeld => ?_)
     clear hK K
     refine norm_ (a' := ?_) ?_ ?_
     rotate_left
     · show Act.put _ (some 21) _ = _
       simp only [Act.put, List.setIfInBounds_toArray, List.set_cons_zero, List.set_cons_succ, i64_w, i32_w]
       rfl
     refine one_ (i := 5) (N := some 23) #[true, true, true, true, true, true, false, false, false, true, false, false] rfl rfl (one_of HT_.out (by kernel_rfl)) (by decide) (fun K hK => ?_)
     refine goes_ Try.func8 (by kernel_rfl) rfl #[.agg #[.string t201, .slice Ao21 t202.length co21], .slice Ao29 y208.length co29, .func (.func 30) #[] #[]] (by rfl) rfl rfl (by (try simp only [List.map_toArray, List.map_cons, List.map_nil]); first | done | rfl | (simp only [List.length_drop, List.length_take]; rfl)) ?_
     with_reducible refine (refs_Apply.calls k t201 (fun k_ => (((some k_ ≠ (v199 : Value).ownBlock ∧ (k_ ≠ gb196 ∧ k_ ≠ gb206)) ∧ k_ ≠ gb216) ∧ some k_ ≠ (.slice Ao29 y208.length co29 : Value).ownBlock)) _ _ t202 _ _ y208 t211 t212 t215 _ ?side1 ?side2 ?side3 A4.out).mono ?_
     (case side1 => exact HO204.out)
     (case side2 => repeat (first | exact (Kd.R_reads' HO210.out).2.2 | (with_reducible refine Kd.C_alloc ?_ _) | (with_reducible refine Kd.C_drewN ?_ _) | (with_reducible refine Kd.C_drew ?_)))
     (case side3 => exact (Kd.R_reads' HO210.out).2.1)
     rintro e w30 ⟨v213, rfl, ho0, hb⟩
     refine ⟨_, rfl, ?_⟩
     have n0_ := Aside0.mk (Kd.R_below (rz_ HO200.out) hb)
     have n1_ := Aside0.mk (Kd.V_below (by (with_reducible repeat (first | apply Kd.V_alloc | apply Kd.V_drewN | apply Kd.V_drew)); exact HO204.out) hb)
     have n2_ := Aside0.mk (Kd.R_below (rz_ HO210.out) hb)
     have n3_ := Aside0.mk (Kd.V_lower (Kd.V_mono (ok' := fun k_ => some k_ ≠ (v199 : Value).ownBlock ∧ some k_ ≠ (.slice Ao29 y208.length co29 : Value).ownBlock ∧ k_ ≠ gb196 ∧ k_ ≠ gb206 ∧ k_ ≠ gb216) ho0 (fun k_ hk_ => ⟨Or.elim hk_ (fun hs_ => hs_.1.1.1) (fun hn_ => (Kd.fresh' (Kd.R_lt (rz_ HO200.out)) k_ hn_)), Or.elim hk_ (fun hs_ => hs_.2) (fun hn_ => (Kd.fresh' (Kd.R_lt (rz_ HO210.out)) k_ hn_)), Or.elim hk_ (fun hs_ => hs_.1.1.2.1) (fun hn_ => (Kd.freshB (g := gb196) (o := .cells #[.string (⟨#[104, 101, 97, 100, 115, 47, 109, 97, 105, 110]⟩ : ByteArray), .slice none 0 0] 24 (0, 0)) (kz_ BK196.out) k_ hn_)), Or.elim hk_ (fun hs_ => hs_.1.1.2.2) (fun hn_ => (Kd.freshB (g := gb206) (o := .cells #[.string t201, .slice Ao21 t202.length co21] 24 (0, 0)) (kz_ BK206.out) k_ hn_)), Or.elim hk_ (fun hs_ => hs_.1.2) (fun hn_ => (Kd.freshB (g := gb216) (o := .cells #[.string (⟨#[]⟩ : ByteArray), .slice none 0 0] 24 (0, 0)) (kz_ BK216.out) k_ hn_))⟩)) (below_size (bs3_ GE196.out GE206.out GE216.out)))
     have n4_ := Aside0.mk (blk_below (g := gb196) (o := .cells #[.string (⟨#[104, 101, 97, 100, 115, 47, 109, 97, 105, 110]⟩ : ByteArray), .slice none 0 0] 24 (0, 0)) (kz_ BK196.out) hb)
     have n5_ := Aside0.mk (blk_below (g := gb206) (o := .cells #[.string t201, .slice Ao21 t202.length co21] 24 (0, 0)) (kz_ BK206.out) hb)
     have n6_ := Aside0.mk (blk_below (g := gb216) (o := .cells #[.string (⟨#[]⟩ : ByteArray), .slice none 0 0] 24 (0, 0)) (kz_ BK216.out) hb)
     have n7_ := Aside0.mk (below_step (bs3_ GE196.out GE206.out GE216.out) hb)
     clear HO200
     clear HO204
     clear HO210
     clear BK196
     clear BK206
     clear BK216
     clear HB
     have HO200 := n0_
     have HO204 := n1_
     have HO210 := n2_
     have HO214 := n3_
     have BK196 := n4_
     have BK206 := n5_
     have BK216 := n6_
     have HB := n7_
     clear n0_ n1_ n2_ n3_ n4_ n5_ n6_ n7_
     (try clear hb)
     (try clear hb2)
     (try clear hk)
     (try clear hi)
     (try clear ho0)
     refine hK.out _ _ ⟨(blk_cell BK206.out 0).trans rfl, (blk_cell BK206.out 1).trans rfl⟩ (fun hHeld => ?_)
     clear hK K
     refine norm_ (a' := ?_) ?_ ?_
     rotate_left
     · show Act.put _ (some 23) _ = _
       simp only [Act.put, List.setIfInBounds_toArray, List.set_cons_zero, List.set_cons_succ, i64_w, i32_w]
       rfl
     refine pure_ (i := 6) (N := some 17) (v := ?_) (a' := ?_) #[true, true, true, true, true, true, true, false, false, true, false, false] rfl rfl (any_of HT_.out (by kernel_rfl)) (fun _ _ _ h => h) (Or.inl ⟨by rfl, ?_⟩) ?_ ?_
     rotate_left
     · intro w'
       go_simp
       with_reducible rfl
     rotate_left
     · simp only [Act.put, List.setIfInBounds_toArray, List.set_cons_zero, List.set_cons_succ, i64_w, i32_w]
       rfl
     refine pure_ (i := 7) (N := some 24) (v := ?_) (a' := ?_) #[true, true, true, true, true, true, true, true, false, true, false, false] rfl rfl (any_of HT_.out (by kernel_rfl)) (fun _ _ _ h => h) (Or.inl ⟨by rfl, ?_⟩) ?_ ?_
     rotate_left
     · intro w'
       go_simp
       with_reducible rfl
     rotate_left
     · simp only [Act.put, List.setIfInBounds_toArray, List.set_cons_zero, List.set_cons_succ, i64_w, i32_w]
       rfl
     refine pure_ (i := 8) (N := some 25) (v := ?_) (a' := ?_) #[true, true, true, true, true, true, true, true, true, true, false, false] rfl rfl (any_of HT_.out (by kernel_rfl)) (fun _ _ _ h => h) (Or.inl ⟨by rfl, ?_⟩) ?_ ?_
     rotate_left
     · intro w'
       go_simp
       with_reducible rfl
     rotate_left
     · simp only [Act.put, List.setIfInBounds_toArray, List.set_cons_zero, List.set_cons_succ, i64_w, i32_w]
       rfl
     exact norm_ (by simp only [putAll, Act.put, List.setIfInBounds_toArray, List.set_cons_zero, List.set_cons_succ]) (hCont (.slice Ao29 y208.length co29, v213, gb216) _ ⟨hHeld, (rz_ (Kd.R_mono HO200.out (fun _ hk => hk.2))), (by (with_reducible repeat (first | apply Kd.V_alloc | apply Kd.V_drewN | apply Kd.V_drew)); exact Kd.V_mono HO204.out (fun _ hk => ⟨hk.1.1.1, ⟨hk.2, ⟨hk.1.1.2.1, ⟨hk.1.1.2.2, hk.1.2⟩⟩⟩⟩)), (rz_ (Kd.R_mono HO210.out (fun _ hk => hk.2))), (by (with_reducible repeat (first | apply Kd.V_alloc | apply Kd.V_drewN | apply Kd.V_drew)); exact HO214.out), (kz_ BK196.out), (kz_ BK206.out), (kz_ BK216.out), GW216.out, GE216.out, NB196_216.out, NB216_196.out, NB206_216.out, NB216_206.out, (bs3_ GE196.out GE206.out GE216.out)⟩)
   rintro ⟨v209, v213, gb216⟩ w31 ⟨hS_, h0_, h1_, h2_, h3_, h4_, h5_, h6_, h7_, h8_, h9_, h10_, h11_, h12_, h13_⟩
   have n0_ : Aside0 (Kd.R k34 34 w31 w.heap.size (fun k_ => some k_ ≠ (v209 : Value).ownBlock) v199 y198) := ⟨h0_⟩
   have n1_ : Aside0 (Kd.V k50 50 w31 w.heap.size (fun k_ => some k_ ≠ (v199 : Value).ownBlock ∧ some k_ ≠ (v209 : Value).ownBlock ∧ k_ ≠ gb196 ∧ k_ ≠ gb206 ∧ k_ ≠ gb216) (.slice Ao21 t202.length co21) t202) := ⟨h1_⟩
   have n2_ : Aside0 (Kd.R k34 34 w31 w.heap.size (fun k_ => some k_ ≠ (v199 : Value).ownBlock) v209 y208) := ⟨h2_⟩
   have n3_ : Aside0 (Kd.V k50 50 w31 w.heap.size (fun k_ => some k_ ≠ (v199 : Value).ownBlock ∧ some k_ ≠ (v209 : Value).ownBlock ∧ k_ ≠ gb196 ∧ k_ ≠ gb206 ∧ k_ ≠ gb216) v213 t212) := ⟨h3_⟩
   have n4_ : Aside0 (w31.heap[gb196]? = some (.cells #[.string (⟨#[104, 101, 97, 100, 115, 47, 109, 97, 105, 110]⟩ : ByteArray), .slice none 0 0] 24 (0, 0))) := ⟨h4_⟩
   have n5_ : Aside0 (w31.heap[gb206]? = some (.cells #[.string t201, .slice Ao21 t202.length co21] 24 (0, 0))) := ⟨h5_⟩
   have n6_ : Aside0 (w31.heap[gb216]? = some (.cells #[.string (⟨#[]⟩ : ByteArray), .slice none 0 0] 24 (0, 0))) := ⟨h6_⟩
   have n7_ : Aside0 (w.heap.size ≤ gb216) := ⟨h7_⟩
   have n8_ : Aside0 (w.heap.size ≤ gb216) := ⟨h8_⟩
   have n9_ : Aside0 (gb196 ≠ gb216) := ⟨h9_⟩
   have n10_ : Aside0 (gb216 ≠ gb196) := ⟨h10_⟩
   have n11_ : Aside0 (gb206 ≠ gb216) := ⟨h11_⟩
   have n12_ : Aside0 (gb216 ≠ gb206) := ⟨h12_⟩
   have n13_ : Aside0 (Below w.heap.size w w31) := ⟨h13_⟩
   clear HO200
   clear HO204
   clear BK196
   clear BK206
   clear HB
   clear h0_ h1_ h2_ h3_ h4_ h5_ h6_ h7_ h8_ h9_ h10_ h11_ h12_ h13_
   have HO200 := n0_
   have HO204 := n1_
   have HO210 := n2_
   have HO214 := n3_
   have BK196 := n4_
   have BK206 := n5_
   have BK216 := n6_
   have GW216 := n7_
   have GE216 := n8_
   have NB196_216 := n9_
   have NB216_196 := n10_
   have NB206_216 := n11_
   have NB216_206 := n12_
   have HB := n13_
   clear n0_ n1_ n2_ n3_ n4_ n5_ n6_ n7_ n8_ n9_ n10_ n11_ n12_ n13_
   have hHeld : w31.cell? ⟨gb206, 0, none⟩ = some (.string t201) ∧ w31.cell? ⟨gb206, 1, none⟩ = some (.slice Ao21 t202.length co21) := hS_
   obtain ⟨Ao33, co33, eo33⟩ := Kd.V_slice HO214.out
   (first | subst eo33 | (injection eo33 with f1_ f2_ f3_; have f4_ := f1_.symm; have f5_ := f3_.symm; clear f1_ f2_ f3_; subst f4_; subst f5_))
   refine norm_ (a' := ?_) ?_ ?_
   rotate_left
   · simp only [putAll, Act.put, List.setIfInBounds_toArray, List.set_cons_zero, List.set_cons_succ]
     rfl
   refine one_ (i := 10) (N := none) #[true, true, true, true, true, true, true, true, true, true, true, false] rfl rfl (one_of HT_.out (by kernel_rfl)) (by decide) (fun K hK => ?_)
   have hs32 : w31.cell? ⟨gb216, 0, none⟩ = some (.string (⟨#[]⟩ : ByteArray)) := (blk_cell BK216.out 0).trans rfl
   have hfs32 := blk_frozen BK216.out 0
   have hns32_0 := NB196_216.out
   have hns32_1 := NB206_216.out
   have hms32_0 := NB216_196.out
   have hms32_1 := NB216_206.out
   have hs34 : w31.cell? ⟨gb216, 1, none⟩ = some (.slice none 0 0) := (blk_cell BK216.out 1).trans rfl
   have hfs34 := blk_frozen BK216.out 1
   have hns34_0 := NB196_216.out
   have hns34_1 := NB206_216.out
   have hms34_0 := NB216_196.out
   have hms34_1 := NB216_206.out
   refine skip_ (w1 := ?_) (by rfl) rfl ?_ ?_
   rotate_left
   · go_simp
     rfl
   refine hK.out _ _ ⟨((cell_far (p := ⟨gb216, _, none⟩) NB206_216.out _).trans (((cell_far (p := ⟨gb216, _, none⟩) NB206_216.out _).trans (hHeld.1)))), ((cell_far (p := ⟨gb216, _, none⟩) NB206_216.out _).trans (((cell_far (p := ⟨gb216, _, none⟩) NB206_216.out _).trans (hHeld.2))))⟩ (fun hHeld => ?_)
   clear hK K
   refine pure_ (i := 11) (N := some 6) (v := ?_) (a' := ?_) #[true, true, true, true, true, true, true, true, true, true, true, true] rfl rfl (any_of HT_.out (by kernel_rfl)) (fun _ _ _ h => h) (Or.inl ⟨by rfl, ?_⟩) ?_ ?_
   rotate_left
   · intro w'
     go_simp
     with_reducible rfl
   rotate_left
   · simp only [Act.put, List.setIfInBounds_toArray, List.set_cons_zero, List.set_cons_succ, i64_w, i32_w]
     rfl
   refine done_ (done_of HT_.out (by kernel_rfl)) ?_
   have hnb35 := NB206_196.out
   have hnc35 := NB196_206.out
   have hnb36 := NB206_216.out
   have hnc36 := NB216_206.out
   have hcz37_0 : w31.cell? ⟨gb206, 0, none⟩ = some (.string t201) := (blk_cell BK206.out 0).trans rfl
   have hcz37_1 : w31.cell? ⟨gb206, 1, none⟩ = some (.slice Ao21 t202.length co21) := (blk_cell BK206.out 1).trans rfl
   have hfz37_0 := blk_frozen BK206.out 0
   have hfz37_1 := blk_frozen BK206.out 1
   try go_wp2_with (first | (go_at_call 21; (with_reducible refine (refs_Get.calls k t201 _ _ t202 (⟨#[104, 101, 97, 100, 115, 47, 109, 97, 105, 110]⟩ : ByteArray) t217 _ ?side1 ?side2 A6.out).mono ?_); (case side1 => refine (Kd.V_reads' (e := 50) (base := w.heap.size) (ok := fun k_ => (some k_ ≠ (v199 : Value).ownBlock ∧ (some k_ ≠ (v209 : Value).ownBlock ∧ (k_ ≠ gb196 ∧ (k_ ≠ gb206 ∧ k_ ≠ gb216))))) (n := t202.length) (c := co21) ?_).2.2; exact (by (with_reducible repeat (first | apply Kd.V_alloc | apply Kd.V_drewN | apply Kd.V_drew)); exact (Kd.V_mono (Kd.V_far (p := ⟨gb216, 1, none⟩) (Kd.V_far (p := ⟨gb216, 0, none⟩) (Kd.V_mono HO204.out (fun k_ hk => (⟨hk, hk.2.2.2.2⟩ : _ ∧ k_ ≠ gb216))) (fun _ hk => hk.2) (.string t211)) (fun _ hk => hk.2) (.slice Ao33 t212.length co33)) (fun _ h_ => h_.1)))); (case side2 => exact (Kd.V_reads' HO204.out).2.1); rintro e w38 ⟨rfl, hb⟩; have n0_ := Aside0.mk (Kd.R_below (rz_ ((Kd.R_mono (Kd.R_far (p := ⟨gb216, 1, none⟩) (Kd.R_far (p := ⟨gb216, 0, none⟩) (Kd.R_types HO200.out BK216.out (by decide)) (fun _ hk => hk.2) (.string t211)) (fun _ hk => hk.2) (.slice Ao33 t212.length co33)) (fun _ h_ => h_.1)))) hb); have n1_ := Aside0.mk (Kd.V_below (by (with_reducible repeat (first | apply Kd.V_alloc | apply Kd.V_drewN | apply Kd.V_drew)); exact (Kd.V_mono (Kd.V_far (p := ⟨gb216, 1, none⟩) (Kd.V_far (p := ⟨gb216, 0, none⟩) (Kd.V_mono HO204.out (fun k_ hk => (⟨hk, hk.2.2.2.2⟩ : _ ∧ k_ ≠ gb216))) (fun _ hk => hk.2) (.string t211)) (fun _ hk => hk.2) (.slice Ao33 t212.length co33)) (fun _ h_ => h_.1))) hb); have n2_ := Aside0.mk (Kd.R_below (rz_ ((Kd.R_mono (Kd.R_far (p := ⟨gb216, 1, none⟩) (Kd.R_far (p := ⟨gb216, 0, none⟩) (Kd.R_types HO210.out BK216.out (by decide)) (fun _ hk => hk.2) (.string t211)) (fun _ hk => hk.2) (.slice Ao33 t212.length co33)) (fun _ h_ => h_.1)))) hb); have n3_ := Aside0.mk (Kd.V_below (by (with_reducible repeat (first | apply Kd.V_alloc | apply Kd.V_drewN | apply Kd.V_drew)); exact (Kd.V_mono (Kd.V_far (p := ⟨gb216, 1, none⟩) (Kd.V_far (p := ⟨gb216, 0, none⟩) (Kd.V_mono HO214.out (fun k_ hk => (⟨hk, hk.2.2.2.2⟩ : _ ∧ k_ ≠ gb216))) (fun _ hk => hk.2) (.string t211)) (fun _ hk => hk.2) (.slice Ao33 t212.length co33)) (fun _ h_ => h_.1))) hb); have n4_ := Aside0.mk (blk_below (g := gb196) (o := .cells #[.string (⟨#[104, 101, 97, 100, 115, 47, 109, 97, 105, 110]⟩ : ByteArray), .slice none 0 0] 24 (0, 0)) (by (with_reducible repeat (first | refine blk_drewN ?_ _ | refine blk_drew ?_ | refine blk_alloc ?_ _)); refine blk_far ?_ NB196_216.out _; (with_reducible repeat (first | refine blk_drewN ?_ _ | refine blk_drew ?_ | refine blk_alloc ?_ _)); refine blk_far ?_ NB196_216.out _; (with_reducible repeat (first | refine blk_drewN ?_ _ | refine blk_drew ?_ | refine blk_alloc ?_ _)); exact BK196.out) hb); have n5_ := Aside0.mk (blk_below (g := gb206) (o := .cells #[.string t201, .slice Ao21 t202.length co21] 24 (0, 0)) (by (with_reducible repeat (first | refine blk_drewN ?_ _ | refine blk_drew ?_ | refine blk_alloc ?_ _)); refine blk_far ?_ NB206_216.out _; (with_reducible repeat (first | refine blk_drewN ?_ _ | refine blk_drew ?_ | refine blk_alloc ?_ _)); refine blk_far ?_ NB206_216.out _; (with_reducible repeat (first | refine blk_drewN ?_ _ | refine blk_drew ?_ | refine blk_alloc ?_ _)); exact BK206.out) hb); have n6_ := Aside0.mk (blk_below (g := gb216) (o := .cells #[.string t211, .slice Ao33 t212.length co33] 24 (0, 0)) (by (with_reducible repeat (first | refine blk_drewN ?_ _ | refine blk_drew ?_ | refine blk_alloc ?_ _)); refine blk_put (cs := #[.string t211, .slice none 0 0]) ?_ 1 _ rfl; (with_reducible repeat (first | refine blk_drewN ?_ _ | refine blk_drew ?_ | refine blk_alloc ?_ _)); refine blk_put (cs := #[.string (⟨#[]⟩ : ByteArray), .slice none 0 0]) ?_ 0 _ rfl; (with_reducible repeat (first | refine blk_drewN ?_ _ | refine blk_drew ?_ | refine blk_alloc ?_ _)); exact BK216.out) hb); have n7_ := Aside0.mk (below_step (bs3_ GE196.out GE206.out GE216.out) hb); clear HO200; clear HO204; clear HO210; clear HO214; clear BK196; clear BK206; clear BK216; clear HB; have HO200 := n0_; have HO204 := n1_; have HO210 := n2_; have HO214 := n3_; have BK196 := n4_; have BK206 := n5_; have BK216 := n6_; have HB := n7_; clear n0_ n1_ n2_ n3_ n4_ n5_ n6_ n7_; (try clear hb); (try clear hb2); (try clear hk); (try clear hi)) | (go_at_call 14; (with_reducible refine (pollardlaw13_id.calls k 97 t218 _ A7.out).mono ?_); rintro e w39 ⟨rfl, hb⟩; have n0_ := Aside0.mk (Kd.R_below (rz_ HO200.out) hb); have n1_ := Aside0.mk (Kd.V_below (by (with_reducible repeat (first | apply Kd.V_alloc | apply Kd.V_drewN | apply Kd.V_drew)); exact HO204.out) hb); have n2_ := Aside0.mk (Kd.R_below (rz_ HO210.out) hb); have n3_ := Aside0.mk (Kd.V_below (by (with_reducible repeat (first | apply Kd.V_alloc | apply Kd.V_drewN | apply Kd.V_drew)); exact HO214.out) hb); have n4_ := Aside0.mk (blk_below (g := gb196) (o := .cells #[.string (⟨#[104, 101, 97, 100, 115, 47, 109, 97, 105, 110]⟩ : ByteArray), .slice none 0 0] 24 (0, 0)) (kz_ BK196.out) hb); have n5_ := Aside0.mk (blk_below (g := gb206) (o := .cells #[.string t201, .slice Ao21 t202.length co21] 24 (0, 0)) (kz_ BK206.out) hb); have n6_ := Aside0.mk (blk_below (g := gb216) (o := .cells #[.string t211, .slice Ao33 t212.length co33] 24 (0, 0)) (kz_ BK216.out) hb); have n7_ := Aside0.mk (below_step (bs3_ GE196.out GE206.out GE216.out) hb); clear HO200; clear HO204; clear HO210; clear HO214; clear BK196; clear BK206; clear BK216; clear HB; have HO200 := n0_; have HO204 := n1_; have HO210 := n2_; have HO214 := n3_; have BK196 := n4_; have BK206 := n5_; have BK216 := n6_; have HB := n7_; clear n0_ n1_ n2_ n3_ n4_ n5_ n6_ n7_; (try clear hb); (try clear hb2); (try clear hk); (try clear hi)))
   go_ret
   exact ⟨xz_, bs3_ GE196.out GE206.out GE216.out⟩
  · rw [if_neg c8] at H
    exact absurd H (by simp)
 · rw [if_neg c5] at H
   exact absurd H (by simp)

end Go.Proofs.Ytgepbdkbleapaaa.M
