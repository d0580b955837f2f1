/- The program's functions as plain functions, and that each call comes to what these tell; written by a program of this session, some contracts by hand. Conditions: none. -/
import Derived.Test.YtnapcfpecpgdbaaDoorMx0
import Derived.Test.YtnapcfpecpgdbaaDoorMx3
import Derived.Test.YtnapcfpecpgdbaaDoorMx10
import Derived.Test.YtnapcfpecpgdbaaDoorMx12
import Derived.Test.YtnapcfpecpgdbaaDoorMx13
namespace Go.Proofs.YtnapcfpecpgdbaaDoor.M
open Go.RowKit Go.Proofs.YtnapcfpecpgdbaaDoorW.PrintWords Go.Proofs.YtnapcfpecpgdbaaDoorW.PrintLast Go.Proofs.YtnapcfpecpgdbaaDoorW.PrintMore
attribute [local go_sem] max2_int min2_int max_two min_two max_three min_three max_four min_four   -- for this text's walks alone
set_option linter.unusedVariables false
set_option linter.unusedSimpArgs false

/-! ### ob_Links: function 18 -/
mutual
def ob_Links.j0 : Nat → Int → ByteArray → Int → Bool → Option ((List (S56)) × Int)
 | 0, _, _, _, _ => none
 | k + 1, x4, x5, x6, x30 => if x30 = true then (some (([] : List (S56)), x6)) else (if x4 = 4 then ((ob_GetTag.f k x5).bind fun bt228 => (if bt228.2.2.2.2 = 0 then (some ((([(⟨bt228.2.1, bt228.1⟩ : S56)] : List (S56))), 0)) else (some (([] : List (S56)), bt228.2.2.2.2)))) else (if x4 = 3 then ((ob_GetCommit.f k x5).bind fun bt237 => (if bt237.2.2.2.2.2 = 0 then (ob_Links.l0 k (([(⟨2, bt237.1⟩ : S56)] : List (S56))) bt237.2.1 (bt237.2.1.length : Int) 0) else (some (([] : List (S56)), bt237.2.2.2.2.2)))) else ((tree_Decode.f k x5).bind fun bt253 => (if bt253.2 = 0 then (ob_Links.l1 k ([] : List (S56)) bt253.1 (bt253.1.length : Int) 0) else (some (([] : List (S56)), bt253.2))))))
def ob_Links.l0 : Nat → List (S56) → List ByteArray → Int → Int → Option ((List (S56)) × Int)
 | 0, _, _, _, _ => none
 | k + 1, x11, x63, x64, x65 => if x65 < x64 then (if 0 ≤ x65 then (if x65 < (x63.length : Int) then (if x11.length < 5864062014805 then (ob_Links.l0 k (x11 ++ [(⟨3, rdOf ByteArray.empty x63 x65⟩ : S56)]) x63 x64 (wrap64 (x65 + 1))) else (none)) else (none)) else (none)) else (some (x11, 0))
def ob_Links.l1 : Nat → List (S56) → List (S82) → Int → Int → Option ((List (S56)) × Int)
 | 0, _, _, _, _ => none
 | k + 1, x15, x84, x85, x86 => if x86 < x85 then (if 0 ≤ x86 then (if x86 < (x84.length : Int) then (if ((rd_T82 x84 x86).f1) = 3 then (if x15.length < 5864062014805 then (ob_Links.l1 k (x15 ++ [(⟨2, (rd_T82 x84 x86).f2⟩ : S56)]) x84 x85 (wrap64 (x86 + 1))) else (none)) else (if x15.length < 5864062014805 then (ob_Links.l1 k (x15 ++ [(⟨1, (rd_T82 x84 x86).f2⟩ : S56)]) x84 x85 (wrap64 (x86 + 1))) else (none))) else (none)) else (none)) else (some (x15, 0))
end
def ob_Links.f (k : Nat) (a0 : ByteArray) : Option ((List (S56)) × Int) := (ob_Open.f k a0).bind fun bt225 => (if bt225.2.2 = 0 then (ob_Links.j0 k bt225.1 bt225.2.1 bt225.2.2 (bt225.1 == 1)) else (ob_Links.j0 k bt225.1 bt225.2.1 bt225.2.2 true))
theorem ob_Links.mono_l : ∀ k, (∀ y0 y1 y2 y3, LeO (ob_Links.j0 k y0 y1 y2 y3) (ob_Links.j0 (k + 1) y0 y1 y2 y3)) ∧ (∀ y0 y1 y2 y3, LeO (ob_Links.l0 k y0 y1 y2 y3) (ob_Links.l0 (k + 1) y0 y1 y2 y3)) ∧ (∀ y0 y1 y2 y3, LeO (ob_Links.l1 k y0 y1 y2 y3) (ob_Links.l1 (k + 1) y0 y1 y2 y3))
 | 0 => ⟨fun _ _ _ _ r h => by simp [ob_Links.j0] at h, fun _ _ _ _ r h => by simp [ob_Links.l0] at h, fun _ _ _ _ r h => by simp [ob_Links.l1] at h⟩
 | k + 1 => by
  obtain ⟨ih0, ih1, ih2⟩ := ob_Links.mono_l k
  refine ⟨?_, ?_, ?_⟩
  all_goals (intros; first | unfold ob_Links.j0 | unfold ob_Links.l0 | unfold ob_Links.l1)
  all_goals repeat' with_reducible first | exact ih0 _ _ _ _ | exact ih1 _ _ _ _ | exact ih2 _ _ _ _ | exact ob_GetCommit.mono _ _ | exact ob_GetTag.mono _ _ | exact ob_Open.mono _ _ | exact tree_Decode.mono _ _ | exact LeO.refl _ | exact LeO.none _ | refine LeO.ite ?_ ?_ | refine LeO.bind ?_ (fun _ => ?_)
theorem ob_Links.mono : ∀ a0 k, LeO (ob_Links.f k a0) (ob_Links.f (k + 1) a0) := by
 intro a0 k
 obtain ⟨ih0, ih1, ih2⟩ := ob_Links.mono_l k
 unfold ob_Links.f
 repeat' with_reducible first | exact ih0 _ _ _ _ | exact ih1 _ _ _ _ | exact ih2 _ _ _ _ | exact ob_GetCommit.mono _ _ | exact ob_GetTag.mono _ _ | exact ob_Open.mono _ _ | exact tree_Decode.mono _ _ | exact LeO.refl _ | exact LeO.none _ | refine LeO.ite ?_ ?_ | refine LeO.bind ?_ (fun _ => ?_)
set_option maxHeartbeats 8000000 in
set_option maxRecDepth 100000 in
theorem ob_Links.calls (k : Nat) (a0 : ByteArray) (r1 : List (S56)) (r2 : Int) (w : World) (h : ob_Links.f k a0 = some (r1, r2)) :
 Calls Tryd.prog 18 #[.string a0] w fun e w' => ∃ v0_ : Value, e = .returned (.tuple #[v0_, .int .i64 r2]) ∧ Kd.R k56 56 w' w.heap.size (fun _ => True) v0_ r1 ∧ Below w.heap.size w w' := by
 have hu75 := Tryd.underlying75
 have hu56 := Tryd.underlying56
 have hu25 := Tryd.underlying25
 have hu82 := Tryd.underlying82
 have HB := Aside0.mk (Below.refl w.heap.size w)
 have H : ((ob_Open.f k a0).bind fun bt225 => (if bt225.2.2 = 0 then (ob_Links.j0 k bt225.1 bt225.2.1 bt225.2.2 (bt225.1 == 1)) else (ob_Links.j0 k bt225.1 bt225.2.1 bt225.2.2 true))) = some (r1, r2) := h
 clear h
 replace H := Option.bind_eq_some_iff.mp H
 obtain ⟨⟨t225, t226, t227⟩, A20, H⟩ := H
 try dsimp only at H
 have A2 := Aside0.mk A20
 clear A20
 have HC3 := Aside0.mk H
 clear H
 go_enter Tryd.func18, Tryd.ntmps18
 go_upto_region 2 with (first | ((with_reducible refine gate_callee (f := 16) rfl ?_); refine goesM_ (some 21) Tryd.func16 #[.string a0] ?_; (with_reducible refine (ob_Open.calls k a0 t225 t226 t227 _ A2.out).mono ?_); rintro e w4 ⟨rfl, hb⟩; refine ⟨_, rfl, ?_⟩; have n0_ := Aside0.mk (below_step bz_ hb); clear HB; have HB := n0_; clear n0_; (try clear hb); (try clear hb2); (try clear hk); (try clear hi)))
 (try simp only [Act.put, List.setIfInBounds_toArray, List.set_cons_zero, List.set_cons_succ])
 go_cut [30] (fun v30 wc => ∃ (kq : Nat) (x30_2 : Bool), v30 = .bool x30_2 ∧ Aside0 (ob_Links.j0 kq t225 t226 t227 x30_2 = some (r1, r2)) ∧ Aside0 (kq ≤ k) ∧ Aside0 (Below w.heap.size w wc))
 case first =>
  have H := HC3.out
  clear HC3
  by_cases c5 : t227 = 0
  · rw [if_pos c5] at H
    have c5b0 : (t227 == 0) = true := beq_iff_eq.mpr c5
    have c5b1 : (t227 != 0) = false := bne_eq_false_iff_eq.mpr c5
    clear c5
    (first | rw [c5b0] | (simp only [i64_w, i32_w]; rw [c5b0]) | skip)
    have H' := Aside0.mk H
    clear H
    go_wp2
    go_meet
    case rel => exact ⟨_, ((t225 == 1)), ez_, H', ⟨by first | omega | exact Nat.le_refl _⟩, ⟨bz_⟩⟩
  · rw [if_neg c5] at H
    have c5b0 : (t227 == 0) = false := beq_eq_false_iff_ne.mpr c5
    have c5b1 : (t227 != 0) = true := bne_iff_ne.mpr c5
    (first | rw [c5b0] | (simp only [i64_w, i32_w]; rw [c5b0]) | skip)
    have H' := Aside0.mk H
    clear H
    go_wp2
    go_meet
    case rel => exact ⟨_, (true), ez_, H', ⟨by first | omega | exact Nat.le_refl _⟩, ⟨bz_⟩⟩
 case rest =>
  clear HC3
  try clear c1
  try clear p2
  try clear c5
  try clear c5b0
  try clear c5b1
  obtain ⟨kq, x30_2, rfl, HA, HJ2, HB⟩ := hcut
  cases kq with
  | zero => exact absurd HA.out (by simp [ob_Links.j0])
  | succ kj2 =>
   have H := HA.out
   clear HA
   simp only [ob_Links.j0] at H
   by_cases c6 : x30_2 = true
   · subst c6
     have H1 := H
     rw [if_pos rfl] at H1
     clear H
     have H := H1
     clear H1
     simp only [Option.some.injEq, Prod.mk.injEq] at H
     obtain ⟨rfl, rfl⟩ := H
     go_wp2
     go_ret2
     exact ⟨_, xz_, nz_, bz_⟩
   ·
    replace c6 := Bool.eq_false_iff.mpr c6
    subst c6
    have H1 := H
    rw [if_neg (show ¬ (false = true) by decide)] at H1
    clear H
    have H := H1
    clear H1
    by_cases c7 : t225 = 4
    ·
     rw [if_pos c7] at H
     have c7b0 : (t225 == 4) = true := beq_iff_eq.mpr c7
     have c7b1 : (t225 != 4) = false := bne_eq_false_iff_eq.mpr c7
     clear c7
     replace H := Option.bind_eq_some_iff.mp H
     obtain ⟨⟨t228, t229, t230, t231, t232⟩, A80, H⟩ := H
     try dsimp only at H
     have A8 := Aside0.mk A80
     clear A80
     by_cases c9 : t232 = 0
     · rw [if_pos c9] at H
       have c9b0 : (t232 == 0) = true := beq_iff_eq.mpr c9
       have c9b1 : (t232 != 0) = false := bne_eq_false_iff_eq.mpr c9
       clear c9
       obtain ⟨y234, hy234⟩ : ∃ y_ : List (S56), y_ = (([(⟨t229, t228⟩ : S56)] : List (S56))) := ⟨_, rfl⟩
       replace H : (some (y234, 0)) = some (r1, r2) := by first | (rw [hy234]; with_reducible exact H) | (have H2_ := (Option.bind_some _ _).symm.trans H; rw [hy234]; with_reducible exact H2_) | (have H2_ := (Option.bind_some _ _).symm.trans H; with_reducible exact H2_) | with_reducible exact H | (rw [hy234]; exact H) | exact H
       have Ny234 := Aside0.mk hy234
       clear hy234
       simp only [Option.some.injEq, Prod.mk.injEq] at H
       obtain ⟨rfl, rfl⟩ := H
       go_wp2_with (first | ((with_reducible refine gate_callee (f := 45) rfl ?_); refine goesM_ (some 36) Tryd.func45 #[.string t226] ?_; (with_reducible refine (ob_GetTag.calls kj2 t226 t228 t229 t230 t231 t232 _ A8.out).mono ?_); rintro e w10 ⟨rfl, hb⟩; refine ⟨_, rfl, ?_⟩; have n0_ := Aside0.mk (below_step bz_ hb); clear HB; have HB := n0_; clear n0_; (try clear hb); (try clear hb2); (try clear hk); (try clear hi)) | ((with_reducible refine gate_dst (N := 7) rfl ?_); refine box_event ?hg (N := 7) ?hd (cs := #[.string (⟨#[]⟩ : ByteArray), .int .i64 0, .string (⟨#[]⟩ : ByteArray), .string (⟨#[]⟩ : ByteArray)]) (t := 75) ?hr ?_; (case hd => rfl); (case hg => rfl); (case hr => first | (go_simp; done) | (go_simp; rfl)); intro gb233 hg w11 hbox hb; have n0_ := Aside0.mk (below_step bz_ hb); have n1_ := Aside0.mk (hbox); have n2_ := Aside0.mk ((by rw [hg]; exact (below_size bz_) : w.heap.size ≤ gb233)); have n3_ := Aside0.mk ((by rw [hg]; exact (below_size bz_) : w.heap.size ≤ gb233)); clear HB; have HB := n0_; have BK233 := n1_; have GW233 := n2_; have GE233 := n3_; clear n0_ n1_ n2_ n3_; clear hb hbox hg; have hcz12_0 : w11.cell? ⟨gb233, 0, none⟩ = some (.string (⟨#[]⟩ : ByteArray)) := (blk_cell BK233.out 0).trans rfl; have hcz12_1 : w11.cell? ⟨gb233, 1, none⟩ = some (.int .i64 0) := (blk_cell BK233.out 1).trans rfl; have hcz12_2 : w11.cell? ⟨gb233, 2, none⟩ = some (.string (⟨#[]⟩ : ByteArray)) := (blk_cell BK233.out 2).trans rfl; have hcz12_3 : w11.cell? ⟨gb233, 3, none⟩ = some (.string (⟨#[]⟩ : ByteArray)) := (blk_cell BK233.out 3).trans rfl; have hfz12_0 := blk_frozen BK233.out 0; have hfz12_1 := blk_frozen BK233.out 1; have hfz12_2 := blk_frozen BK233.out 2; have hfz12_3 := blk_frozen BK233.out 3) | ((with_reducible refine gate_dst (N := 47) rfl ?_); refine Kd.R_lit k56 _ 56 ?hg (N := 47) ?hd (xs := ([(⟨t229, t228⟩ : S56)] : List (S56))) (inner := [.int .i64 t229, .string t228]) (ok := fun _ => True) (okp := fun _ => True) ?hr ?hp (fun _ hk => hk) trivial (Below.refl _ _) (Nat.le_refl _) (by simp) ?_; (case hd => rfl); (case hg => rfl); (case hr => first | (go_simp; done) | (go_simp; rfl)); (case hp => exact (Reps.c2 (show Kd.M k56 _ _ _ (⟨t229, t228⟩ : S56) [.int .i64 t229, .string t228] from (k56_mkM _ _ _ (⟨t229, t228⟩ : S56) )) (Reps.none _ _))); intro v235 w13 ho14 hb hg_ hnew_; clear hg_ hnew_; (first | rw [← Ny234.out] at ho14 | (simp only [Int.reduceToNat] at ho14; rw [← Ny234.out] at ho14)); have n0_ := Aside0.mk (Kd.R_lower ho14 (below_size (bs1_ GE233.out))); have n1_ := Aside0.mk (blk_below (g := gb233) (o := .cells #[.string t228, .int .i64 t229, .string t230, .string t231] 75 (0, 0)) (by (with_reducible repeat (first | refine blk_drewN ?_ _ | refine blk_drew ?_ | refine blk_alloc ?_ _)); refine blk_put (cs := #[.string t228, .int .i64 t229, .string t230, .string (⟨#[]⟩ : ByteArray)]) ?_ 3 _ rfl; (with_reducible repeat (first | refine blk_drewN ?_ _ | refine blk_drew ?_ | refine blk_alloc ?_ _)); refine blk_put (cs := #[.string t228, .int .i64 t229, .string (⟨#[]⟩ : ByteArray), .string (⟨#[]⟩ : ByteArray)]) ?_ 2 _ rfl; (with_reducible repeat (first | refine blk_drewN ?_ _ | refine blk_drew ?_ | refine blk_alloc ?_ _)); refine blk_put (cs := #[.string t228, .int .i64 0, .string (⟨#[]⟩ : ByteArray), .string (⟨#[]⟩ : ByteArray)]) ?_ 1 _ rfl; (with_reducible repeat (first | refine blk_drewN ?_ _ | refine blk_drew ?_ | refine blk_alloc ?_ _)); refine blk_put (cs := #[.string (⟨#[]⟩ : ByteArray), .int .i64 0, .string (⟨#[]⟩ : ByteArray), .string (⟨#[]⟩ : ByteArray)]) ?_ 0 _ rfl; (with_reducible repeat (first | refine blk_drewN ?_ _ | refine blk_drew ?_ | refine blk_alloc ?_ _)); exact BK233.out) hb); have n2_ := Aside0.mk (below_step (bs1_ GE233.out) hb); clear BK233; clear HB; have HO236 := n0_; have BK233 := n1_; have HB := n2_; clear n0_ n1_ n2_; clear hb ho14))
       go_ret2
       exact ⟨_, xz_, rz_ HO236.out, bs1_ GE233.out⟩
     · rw [if_neg c9] at H
       have c9b0 : (t232 == 0) = false := beq_eq_false_iff_ne.mpr c9
       have c9b1 : (t232 != 0) = true := bne_iff_ne.mpr c9
       simp only [Option.some.injEq, Prod.mk.injEq] at H
       obtain ⟨rfl, rfl⟩ := H
       go_wp2_with (first | ((with_reducible refine gate_callee (f := 45) rfl ?_); refine goesM_ (some 36) Tryd.func45 #[.string t226] ?_; (with_reducible refine (ob_GetTag.calls kj2 t226 t228 t229 t230 t231 t232 _ A8.out).mono ?_); rintro e w15 ⟨rfl, hb⟩; refine ⟨_, rfl, ?_⟩; have n0_ := Aside0.mk (below_step bz_ hb); clear HB; have HB := n0_; clear n0_; (try clear hb); (try clear hb2); (try clear hk); (try clear hi)) | ((with_reducible refine gate_dst (N := 7) rfl ?_); refine box_event ?hg (N := 7) ?hd (cs := #[.string (⟨#[]⟩ : ByteArray), .int .i64 0, .string (⟨#[]⟩ : ByteArray), .string (⟨#[]⟩ : ByteArray)]) (t := 75) ?hr ?_; (case hd => rfl); (case hg => rfl); (case hr => first | (go_simp; done) | (go_simp; rfl)); intro gb233 hg w16 hbox hb; have n0_ := Aside0.mk (below_step bz_ hb); have n1_ := Aside0.mk (hbox); have n2_ := Aside0.mk ((by rw [hg]; exact (below_size bz_) : w.heap.size ≤ gb233)); have n3_ := Aside0.mk ((by rw [hg]; exact (below_size bz_) : w.heap.size ≤ gb233)); clear HB; have HB := n0_; have BK233 := n1_; have GW233 := n2_; have GE233 := n3_; clear n0_ n1_ n2_ n3_; clear hb hbox hg; have hcz17_0 : w16.cell? ⟨gb233, 0, none⟩ = some (.string (⟨#[]⟩ : ByteArray)) := (blk_cell BK233.out 0).trans rfl; have hcz17_1 : w16.cell? ⟨gb233, 1, none⟩ = some (.int .i64 0) := (blk_cell BK233.out 1).trans rfl; have hcz17_2 : w16.cell? ⟨gb233, 2, none⟩ = some (.string (⟨#[]⟩ : ByteArray)) := (blk_cell BK233.out 2).trans rfl; have hcz17_3 : w16.cell? ⟨gb233, 3, none⟩ = some (.string (⟨#[]⟩ : ByteArray)) := (blk_cell BK233.out 3).trans rfl; have hfz17_0 := blk_frozen BK233.out 0; have hfz17_1 := blk_frozen BK233.out 1; have hfz17_2 := blk_frozen BK233.out 2; have hfz17_3 := blk_frozen BK233.out 3))
       go_ret2
       exact ⟨_, xz_, nz_, bs1_ GE233.out⟩
    ·
     rw [if_neg c7] at H
     have c7b0 : (t225 == 4) = false := beq_eq_false_iff_ne.mpr c7
     have c7b1 : (t225 != 4) = true := bne_iff_ne.mpr c7
     by_cases c18 : t225 = 3
     ·
      rw [if_pos c18] at H
      have c18b0 : (t225 == 3) = true := beq_iff_eq.mpr c18
      have c18b1 : (t225 != 3) = false := bne_eq_false_iff_eq.mpr c18
      clear c18
      replace H := Option.bind_eq_some_iff.mp H
      obtain ⟨⟨t237, t238, t241, t242, t243, t244⟩, A190, H⟩ := H
      try dsimp only at H
      have A19 := Aside0.mk A190
      clear A190
      by_cases c20 : t244 = 0
      ·
       rw [if_pos c20] at H
       have c20b0 : (t244 == 0) = true := beq_iff_eq.mpr c20
       have c20b1 : (t244 != 0) = false := bne_eq_false_iff_eq.mpr c20
       clear c20
       obtain ⟨y246, hy246⟩ : ∃ y_ : List (S56), y_ = (([(⟨2, t237⟩ : S56)] : List (S56))) := ⟨_, rfl⟩
       replace H : (ob_Links.l0 kj2 y246 t238 (t238.length : Int) 0) = some (r1, r2) := by first | (rw [hy246]; with_reducible exact H) | (have H2_ := (Option.bind_some _ _).symm.trans H; rw [hy246]; with_reducible exact H2_) | (have H2_ := (Option.bind_some _ _).symm.trans H; with_reducible exact H2_) | with_reducible exact H | (rw [hy246]; exact H) | exact H
       have Ny246 := Aside0.mk hy246
       clear hy246
       have H' := Aside0.mk H
       clear H
       go_wp2_with (first | ((with_reducible refine gate_callee (f := 6) rfl ?_); refine goesM_ (some 52) Tryd.func6 #[.string t226] ?_; (with_reducible refine (ob_GetCommit.calls kj2 t226 t237 t238 t241 t242 t243 t244 _ A19.out).mono ?_); rintro e w21 ⟨v239, rfl, ho0, hb⟩; refine ⟨_, rfl, ?_⟩; have n0_ := Aside0.mk (Kd.R_lower ho0 (below_size bz_)); have n1_ := Aside0.mk (below_step bz_ hb); clear HB; have HO240 := n0_; have HB := n1_; clear n0_ n1_; (try clear hb); (try clear hb2); (try clear hk); (try clear hi); (try clear ho0)) | ((with_reducible refine gate_dst (N := 9) rfl ?_); refine box_event ?hg (N := 9) ?hd (cs := #[.string (⟨#[]⟩ : ByteArray), .slice none 0 0, .string (⟨#[]⟩ : ByteArray), .int .u64 0, .string (⟨#[]⟩ : ByteArray)]) (t := 25) ?hr ?_; (case hd => rfl); (case hg => rfl); (case hr => first | (go_simp; done) | (go_simp; rfl)); intro gb245 hg w22 hbox hb; have n0_ := Aside0.mk (Kd.R_below (rz_ HO240.out) hb); have n1_ := Aside0.mk (below_step bz_ hb); have n2_ := Aside0.mk (hbox); have n3_ := Aside0.mk ((by rw [hg]; exact (below_size bz_) : w.heap.size ≤ gb245)); have n4_ := Aside0.mk ((by rw [hg]; exact (below_size bz_) : w.heap.size ≤ gb245)); clear HO240; clear HB; have HO240 := n0_; have HB := n1_; have BK245 := n2_; have GW245 := n3_; have GE245 := n4_; clear n0_ n1_ n2_ n3_ n4_; clear hb hbox hg; have hcz23_0 : w22.cell? ⟨gb245, 0, none⟩ = some (.string (⟨#[]⟩ : ByteArray)) := (blk_cell BK245.out 0).trans rfl; have hcz23_1 : w22.cell? ⟨gb245, 1, none⟩ = some (.slice none 0 0) := (blk_cell BK245.out 1).trans rfl; have hcz23_2 : w22.cell? ⟨gb245, 2, none⟩ = some (.string (⟨#[]⟩ : ByteArray)) := (blk_cell BK245.out 2).trans rfl; have hcz23_3 : w22.cell? ⟨gb245, 3, none⟩ = some (.int .u64 0) := (blk_cell BK245.out 3).trans rfl; have hcz23_4 : w22.cell? ⟨gb245, 4, none⟩ = some (.string (⟨#[]⟩ : ByteArray)) := (blk_cell BK245.out 4).trans rfl; have hfz23_0 := blk_frozen BK245.out 0; have hfz23_1 := blk_frozen BK245.out 1; have hfz23_2 := blk_frozen BK245.out 2; have hfz23_3 := blk_frozen BK245.out 3; have hfz23_4 := blk_frozen BK245.out 4; obtain ⟨Ao24, co24, eo24⟩ := Kd.R_slice HO240.out; subst eo24) | ((with_reducible refine gate_dst (N := 61) rfl ?_); refine Kd.R_lit k56 _ 56 ?hg (N := 61) ?hd (xs := ([(⟨2, t237⟩ : S56)] : List (S56))) (inner := [.int .i64 2, .string t237]) (ok := fun _ => True) (okp := fun _ => True) ?hr ?hp (fun _ hk => hk) trivial (Below.refl _ _) (Nat.le_refl _) (by simp) ?_; (case hd => rfl); (case hg => rfl); (case hr => first | (go_simp; done) | (go_simp; rfl)); (case hp => exact (Reps.c2 (show Kd.M k56 _ _ _ (⟨2, t237⟩ : S56) [.int .i64 2, .string t237] from (k56_mkM _ _ _ (⟨2, t237⟩ : S56) )) (Reps.none _ _))); intro v247 w25 ho26 hb hg_ hnew_; clear hg_ hnew_; (first | rw [← Ny246.out] at ho26 | (simp only [Int.reduceToNat] at ho26; rw [← Ny246.out] at ho26)); have n0_ := Aside0.mk (Kd.R_below (rz_ ((Kd.R_mono (Kd.R_far (p := ⟨gb245, 4, none⟩) (Kd.R_far (p := ⟨gb245, 3, none⟩) (Kd.R_far (p := ⟨gb245, 2, none⟩) (Kd.R_far (p := ⟨gb245, 1, none⟩) (Kd.R_far (p := ⟨gb245, 0, none⟩) (Kd.R_types HO240.out BK245.out (by decide)) (fun _ hk => hk.2) (.string t237)) (fun _ hk => hk.2) (.slice Ao24 t238.length co24)) (fun _ hk => hk.2) (.string t241)) (fun _ hk => hk.2) (.int .u64 t242)) (fun _ hk => hk.2) (.string t243)) (fun _ h_ => h_.1)))) hb); have n1_ := Aside0.mk (Kd.R_lower ho26 (below_size (bs1_ GE245.out))); have n2_ := Aside0.mk (blk_below (g := gb245) (o := .cells #[.string t237, .slice Ao24 t238.length co24, .string t241, .int .u64 t242, .string t243] 25 (0, 0)) (by (with_reducible repeat (first | refine blk_drewN ?_ _ | refine blk_drew ?_ | refine blk_alloc ?_ _)); refine blk_put (cs := #[.string t237, .slice Ao24 t238.length co24, .string t241, .int .u64 t242, .string (⟨#[]⟩ : ByteArray)]) ?_ 4 _ rfl; (with_reducible repeat (first | refine blk_drewN ?_ _ | refine blk_drew ?_ | refine blk_alloc ?_ _)); refine blk_put (cs := #[.string t237, .slice Ao24 t238.length co24, .string t241, .int .u64 0, .string (⟨#[]⟩ : ByteArray)]) ?_ 3 _ rfl; (with_reducible repeat (first | refine blk_drewN ?_ _ | refine blk_drew ?_ | refine blk_alloc ?_ _)); refine blk_put (cs := #[.string t237, .slice Ao24 t238.length co24, .string (⟨#[]⟩ : ByteArray), .int .u64 0, .string (⟨#[]⟩ : ByteArray)]) ?_ 2 _ rfl; (with_reducible repeat (first | refine blk_drewN ?_ _ | refine blk_drew ?_ | refine blk_alloc ?_ _)); refine blk_put (cs := #[.string t237, .slice none 0 0, .string (⟨#[]⟩ : ByteArray), .int .u64 0, .string (⟨#[]⟩ : ByteArray)]) ?_ 1 _ rfl; (with_reducible repeat (first | refine blk_drewN ?_ _ | refine blk_drew ?_ | refine blk_alloc ?_ _)); refine blk_put (cs := #[.string (⟨#[]⟩ : ByteArray), .slice none 0 0, .string (⟨#[]⟩ : ByteArray), .int .u64 0, .string (⟨#[]⟩ : ByteArray)]) ?_ 0 _ rfl; (with_reducible repeat (first | refine blk_drewN ?_ _ | refine blk_drew ?_ | refine blk_alloc ?_ _)); exact BK245.out) hb); have n3_ := Aside0.mk (below_step (bs1_ GE245.out) hb); clear HO240; clear BK245; clear HB; have HO240 := n0_; have HO248 := n1_; have BK245 := n2_; have HB := n3_; clear n0_ n1_ n2_ n3_; clear hb ho26; have hcz27_0 : w25.cell? ⟨gb245, 0, none⟩ = some (.string t237) := (blk_cell BK245.out 0).trans rfl; have hcz27_1 : w25.cell? ⟨gb245, 1, none⟩ = some (.slice Ao24 t238.length co24) := (blk_cell BK245.out 1).trans rfl; have hcz27_2 : w25.cell? ⟨gb245, 2, none⟩ = some (.string t241) := (blk_cell BK245.out 2).trans rfl; have hcz27_3 : w25.cell? ⟨gb245, 3, none⟩ = some (.int .u64 t242) := (blk_cell BK245.out 3).trans rfl; have hcz27_4 : w25.cell? ⟨gb245, 4, none⟩ = some (.string t243) := (blk_cell BK245.out 4).trans rfl; have hfz27_0 := blk_frozen BK245.out 0; have hfz27_1 := blk_frozen BK245.out 1; have hfz27_2 := blk_frozen BK245.out 2; have hfz27_3 := blk_frozen BK245.out 3; have hfz27_4 := blk_frozen BK245.out 4))
       go_loopg [11, 65] kj2 (fun kq v11 v65 w' => ∃ (x11_2 : List (S56)) (x65_2 : Int), v65 = .int .i64 x65_2 ∧ Aside0 (ob_Links.l0 kq x11_2 t238 (t238.length : Int) x65_2 = some (r1, r2)) ∧ Aside0 (kq ≤ kj2) ∧ Aside0 (Kd.R k56 56 w' w.heap.size (fun _ => True) v11 x11_2) ∧ Aside0 (Kd.R Kd.string 9 w' w.heap.size (fun _ => True) (.slice Ao24 t238.length co24) t238) ∧ Aside0 (Kd.R Kd.string 9 w' w.heap.size (fun _ => True) (.slice Ao24 t238.length co24) t238) ∧ Aside0 (w'.heap[gb245]? = some (.cells #[.string t237, (.slice Ao24 t238.length co24), .string t241, .int .u64 t242, .string t243] 25 (0, 0))) ∧ Aside0 (Below w.heap.size w w'))
       case atStart => exact ⟨(y246), (0), ez_, H', ⟨Nat.le_refl _⟩, ⟨rz_ HO248.out⟩, ⟨rz_ HO240.out⟩, ⟨rz_ HO240.out⟩, ⟨kz_ BK245.out⟩, ⟨bs1_ GE245.out⟩⟩
       case round =>
        clear H'
        try clear c1
        try clear c2
        try clear p2
        try clear c4
        try clear c5
        try clear c5b0
        try clear c5b1
        try clear c6
        try clear c7
        try clear c7b0
        try clear c7b1
        try clear c9
        try clear c9b0
        try clear c9b1
        try clear c16
        try clear c18
        try clear c18b0
        try clear c18b1
        try clear c20
        try clear c20b0
        try clear c20b1
        try clear hcz12_0
        try clear hcz12_1
        try clear hcz12_2
        try clear hcz12_3
        try clear hcz17_0
        try clear hcz17_1
        try clear hcz17_2
        try clear hcz17_3
        try clear hcz23_0
        try clear hcz23_1
        try clear hcz23_2
        try clear hcz23_3
        try clear hcz23_4
        try clear hcz27_0
        try clear hcz27_1
        try clear hcz27_2
        try clear hcz27_3
        try clear hcz27_4
        try clear hfz12_0
        try clear hfz12_1
        try clear hfz12_2
        try clear hfz12_3
        try clear hfz17_0
        try clear hfz17_1
        try clear hfz17_2
        try clear hfz17_3
        try clear hfz23_0
        try clear hfz23_1
        try clear hfz23_2
        try clear hfz23_3
        try clear hfz23_4
        try clear hfz27_0
        try clear hfz27_1
        try clear hfz27_2
        try clear hfz27_3
        try clear hfz27_4
        try clear p2
        obtain ⟨x11_2, x65_2, rfl, HA, HK2, HO_11, HO_63, HO_246001, BK245, HB⟩ := hrel
        cases gk with
        | zero => exact absurd HA.out (by simp [ob_Links.l0])
        | succ k2 =>
         have H := HA.out
         clear HA
         simp only [ob_Links.l0] at H
         by_cases c28 : x65_2 < (t238.length : Int)
         ·
          rw [if_pos c28] at H
          have c28b0 : decide (x65_2 < (t238.length : Int)) = true := decide_eq_true c28
          clear c28
          by_cases c29 : 0 ≤ x65_2
          ·
           rw [if_pos c29] at H
           have c29b0 : decide (0 ≤ x65_2) = true := decide_eq_true c29
           clear c29
           by_cases c30 : x65_2 < (t238.length : Int)
           ·
            rw [if_pos c30] at H
            have c30b0 : decide (x65_2 < (t238.length : Int)) = true := decide_eq_true c30
            clear c30
            by_cases c31 : x11_2.length < 5864062014805
            ·
             rw [if_pos c31] at H
             have LMc31 := Aside0.mk c31
             clear c31
             obtain ⟨y250, hy250⟩ : ∃ y_ : List (S56), y_ = (x11_2 ++ [(⟨3, rdOf ByteArray.empty t238 x65_2⟩ : S56)]) := ⟨_, rfl⟩
             replace H : (ob_Links.l0 k2 y250 t238 (t238.length : Int) (wrap64 (x65_2 + 1))) = some (r1, r2) := by first | (rw [hy250]; with_reducible exact H) | (have H2_ := (Option.bind_some _ _).symm.trans H; rw [hy250]; with_reducible exact H2_) | (have H2_ := (Option.bind_some _ _).symm.trans H; with_reducible exact H2_) | with_reducible exact H | (rw [hy250]; exact H) | exact H
             have Ny250 := Aside0.mk hy250
             clear hy250
             have H' := Aside0.mk H
             clear H
             have p249 : 0 ≤ (x65_2 : Int) := of_decide_eq_true az_
             have q249 : x65_2 < (t238.length : Int) := of_decide_eq_true az_
             obtain ⟨ad249, e249, hx249_0⟩ := Kd.at_string (Kd.R_reads' HO_63.out).2.2 x65_2 p249 q249
             cases e249
             replace p249 := eq_true p249
             replace q249 := eq_true q249
             go_wp2_with (first | ((with_reducible refine gate_builtin (b := .append) (xs := #[.tmp 69, .tmp 72]) rfl ?_); at_builtin; refine Kd.R_append k56 (w0 := w) w.heap.size rfl (.tmp 69) (.tmp 72) 48 56 (.agg #[(.int .i64 0), (.string ⟨#[]⟩)]) 24 rfl Tryd.underlying48 info56 rfl (by decide) (by omega) u11 x11_2 (⟨3, rdOf ByteArray.empty t238 x65_2⟩ : S56) [.int .i64 3, .string (rdOf ByteArray.empty t238 x65_2)] (fun _ => True) (fun _ => False) rfl rfl ?aP (fun _ hk => hk.elim) ?aF ?aO ?aB ?aS ?aL ?_; (case aP => exact k56_mkM _ _ _ (⟨3, rdOf ByteArray.empty t238 x65_2⟩ : S56)); (case aB => exact (bs1_ GE245.out)); (case aF => exact (fun _ _ => trivial)); (case aO => exact (rz_ HO_11.out)); (case aS => exact (below_size (bs1_ GE245.out))); (case aL => have := LMc31.out; omega); intro v251 w32 ho hb hg hat; rw [← Ny250.out] at ho; have n0_ := Aside0.mk (Kd.R_over' (rz_ HO_63.out) (Kd.R_typed (rz_ HO_11.out)) (by decide) hg); have n1_ := Aside0.mk (Kd.R_over' (rz_ HO_246001.out) (Kd.R_typed (rz_ HO_11.out)) (by decide) hg); have n2_ := Aside0.mk (blk_grown (g := gb245) (o := .cells #[.string t237, .slice (some ad249) t238.length co24, .string t241, .int .u64 t242, .string t243] 25 (0, 0)) (kz_ BK245.out) hg (Kd.R_ne HO_11.out BK245.out (by decide))); have n3_ := Aside0.mk (hb); have n4_ := Aside0.mk (ho); clear HO_63; clear HO_246001; clear BK245; clear HB; clear HO_11; have HO_63 := n0_; have HO_246001 := n1_; have BK245 := n2_; have HB := n3_; have HO252 := n4_; clear n0_ n1_ n2_ n3_ n4_; clear ho hb hg hat))
             go_roundg k2
             case measure => have := HJ2.out; have := HK2.out; omega
             case rel => exact ⟨(y250), (wrap64 (x65_2 + 1)), ez_, H', ⟨by have := HJ2.out; have := HK2.out; omega⟩, ⟨rz_ HO252.out⟩, ⟨rz_ HO_63.out⟩, ⟨rz_ HO_246001.out⟩, ⟨kz_ BK245.out⟩, ⟨bs1_ GE245.out⟩⟩
            · rw [if_neg c31] at H
              exact absurd H (by simp)
           · rw [if_neg c30] at H
             exact absurd H (by simp)
          · rw [if_neg c29] at H
            exact absurd H (by simp)
         · rw [if_neg c28] at H
           have c28b0 : decide (x65_2 < (t238.length : Int)) = false := decide_eq_false c28
           clear c28
           simp only [Option.some.injEq, Prod.mk.injEq] at H
           obtain ⟨rfl, rfl⟩ := H
           go_wp2
           go_ret2
           exact ⟨_, xz_, rz_ HO_11.out, bs1_ GE245.out⟩
      · rw [if_neg c20] at H
        have c20b0 : (t244 == 0) = false := beq_eq_false_iff_ne.mpr c20
        have c20b1 : (t244 != 0) = true := bne_iff_ne.mpr c20
        simp only [Option.some.injEq, Prod.mk.injEq] at H
        obtain ⟨rfl, rfl⟩ := H
        go_wp2_with (first | ((with_reducible refine gate_callee (f := 6) rfl ?_); refine goesM_ (some 52) Tryd.func6 #[.string t226] ?_; (with_reducible refine (ob_GetCommit.calls kj2 t226 t237 t238 t241 t242 t243 t244 _ A19.out).mono ?_); rintro e w33 ⟨v239, rfl, ho0, hb⟩; refine ⟨_, rfl, ?_⟩; have n0_ := Aside0.mk (Kd.R_lower ho0 (below_size bz_)); have n1_ := Aside0.mk (below_step bz_ hb); clear HB; have HO240 := n0_; have HB := n1_; clear n0_ n1_; (try clear hb); (try clear hb2); (try clear hk); (try clear hi); (try clear ho0)) | ((with_reducible refine gate_dst (N := 9) rfl ?_); refine box_event ?hg (N := 9) ?hd (cs := #[.string (⟨#[]⟩ : ByteArray), .slice none 0 0, .string (⟨#[]⟩ : ByteArray), .int .u64 0, .string (⟨#[]⟩ : ByteArray)]) (t := 25) ?hr ?_; (case hd => rfl); (case hg => rfl); (case hr => first | (go_simp; done) | (go_simp; rfl)); intro gb245 hg w34 hbox hb; have n0_ := Aside0.mk (Kd.R_below (rz_ HO240.out) hb); have n1_ := Aside0.mk (below_step bz_ hb); have n2_ := Aside0.mk (hbox); have n3_ := Aside0.mk ((by rw [hg]; exact (below_size bz_) : w.heap.size ≤ gb245)); have n4_ := Aside0.mk ((by rw [hg]; exact (below_size bz_) : w.heap.size ≤ gb245)); clear HO240; clear HB; have HO240 := n0_; have HB := n1_; have BK245 := n2_; have GW245 := n3_; have GE245 := n4_; clear n0_ n1_ n2_ n3_ n4_; clear hb hbox hg; have hcz35_0 : w34.cell? ⟨gb245, 0, none⟩ = some (.string (⟨#[]⟩ : ByteArray)) := (blk_cell BK245.out 0).trans rfl; have hcz35_1 : w34.cell? ⟨gb245, 1, none⟩ = some (.slice none 0 0) := (blk_cell BK245.out 1).trans rfl; have hcz35_2 : w34.cell? ⟨gb245, 2, none⟩ = some (.string (⟨#[]⟩ : ByteArray)) := (blk_cell BK245.out 2).trans rfl; have hcz35_3 : w34.cell? ⟨gb245, 3, none⟩ = some (.int .u64 0) := (blk_cell BK245.out 3).trans rfl; have hcz35_4 : w34.cell? ⟨gb245, 4, none⟩ = some (.string (⟨#[]⟩ : ByteArray)) := (blk_cell BK245.out 4).trans rfl; have hfz35_0 := blk_frozen BK245.out 0; have hfz35_1 := blk_frozen BK245.out 1; have hfz35_2 := blk_frozen BK245.out 2; have hfz35_3 := blk_frozen BK245.out 3; have hfz35_4 := blk_frozen BK245.out 4; obtain ⟨Ao36, co36, eo36⟩ := Kd.R_slice HO240.out; subst eo36))
        go_ret2
        exact ⟨_, xz_, nz_, bs1_ GE245.out⟩
     ·
      rw [if_neg c18] at H
      have c18b0 : (t225 == 3) = false := beq_eq_false_iff_ne.mpr c18
      have c18b1 : (t225 != 3) = true := bne_iff_ne.mpr c18
      replace H := Option.bind_eq_some_iff.mp H
      obtain ⟨⟨t253, t254⟩, A370, H⟩ := H
      try dsimp only at H
      have A37 := Aside0.mk A370
      clear A370
      by_cases c38 : t254 = 0
      ·
       rw [if_pos c38] at H
       have c38b0 : (t254 == 0) = true := beq_iff_eq.mpr c38
       have c38b1 : (t254 != 0) = false := bne_eq_false_iff_eq.mpr c38
       clear c38
       have H' := Aside0.mk H
       clear H
       go_wp2_with (first | ((with_reducible refine gate_callee (f := 46) rfl ?_); refine goesM_ (some 78) Tryd.func46 #[.string t226] ?_; (with_reducible refine (tree_Decode.calls kj2 t226 t253 t254 _ A37.out).mono ?_); rintro e w39 ⟨v255, rfl, ho0, hb⟩; refine ⟨_, rfl, ?_⟩; have n0_ := Aside0.mk (Kd.R_lower ho0 (below_size bz_)); have n1_ := Aside0.mk (below_step bz_ hb); clear HB; have HO256 := n0_; have HB := n1_; clear n0_ n1_; (try clear hb); (try clear hb2); (try clear hk); (try clear hi); (try clear ho0); obtain ⟨Ao40, co40, eo40⟩ := Kd.R_slice HO256.out; subst eo40))
       go_loopg [15, 86] kj2 (fun kq v15 v86 w' => ∃ (x15_2 : List (S56)) (x86_2 : Int), v86 = .int .i64 x86_2 ∧ Aside0 (ob_Links.l1 kq x15_2 t253 (t253.length : Int) x86_2 = some (r1, r2)) ∧ Aside0 (kq ≤ kj2) ∧ Aside0 (Kd.R k56 56 w' w.heap.size (fun _ => True) v15 x15_2) ∧ Aside0 (Kd.R k82 82 w' w.heap.size (fun _ => True) (.slice Ao40 t253.length co40) t253) ∧ Aside0 (Below w.heap.size w w'))
       case atStart => exact ⟨(([] : List (S56))), (0), ez_, H', ⟨Nat.le_refl _⟩, ⟨nz_⟩, ⟨rz_ HO256.out⟩, ⟨bz_⟩⟩
       case round =>
        clear H'
        try clear c1
        try clear c2
        try clear p2
        try clear q2
        try clear hx2
        try clear c3
        try clear c4
        try clear c5
        try clear c5b0
        try clear c5b1
        try clear c6
        try clear p6
        try clear c7
        try clear c7b0
        try clear c7b1
        try clear c9
        try clear c9b0
        try clear c9b1
        try clear c16
        try clear c18
        try clear c18b0
        try clear c18b1
        try clear c20
        try clear c20b0
        try clear c20b1
        try clear p24
        try clear q24
        try clear hx24
        try clear c28
        try clear c28b0
        try clear c29
        try clear c29b0
        try clear c30
        try clear c30b0
        try clear c31
        try clear c38
        try clear c38b0
        try clear c38b1
        try clear hcz12_0
        try clear hcz12_1
        try clear hcz12_2
        try clear hcz12_3
        try clear hcz17_0
        try clear hcz17_1
        try clear hcz17_2
        try clear hcz17_3
        try clear hcz23_0
        try clear hcz23_1
        try clear hcz23_2
        try clear hcz23_3
        try clear hcz23_4
        try clear hcz27_0
        try clear hcz27_1
        try clear hcz27_2
        try clear hcz27_3
        try clear hcz27_4
        try clear hcz35_0
        try clear hcz35_1
        try clear hcz35_2
        try clear hcz35_3
        try clear hcz35_4
        try clear hfz12_0
        try clear hfz12_1
        try clear hfz12_2
        try clear hfz12_3
        try clear hfz17_0
        try clear hfz17_1
        try clear hfz17_2
        try clear hfz17_3
        try clear hfz23_0
        try clear hfz23_1
        try clear hfz23_2
        try clear hfz23_3
        try clear hfz23_4
        try clear hfz27_0
        try clear hfz27_1
        try clear hfz27_2
        try clear hfz27_3
        try clear hfz27_4
        try clear hfz35_0
        try clear hfz35_1
        try clear hfz35_2
        try clear hfz35_3
        try clear hfz35_4
        try clear hx249_0
        try clear p2
        try clear p249
        try clear q249
        obtain ⟨x15_2, x86_2, rfl, HA, HK2, HO_15, HO_84, HB⟩ := hrel
        cases gk with
        | zero => exact absurd HA.out (by simp [ob_Links.l1])
        | succ k2 =>
         have H := HA.out
         clear HA
         simp only [ob_Links.l1] at H
         by_cases c41 : x86_2 < (t253.length : Int)
         ·
          rw [if_pos c41] at H
          have c41b0 : decide (x86_2 < (t253.length : Int)) = true := decide_eq_true c41
          clear c41
          by_cases c42 : 0 ≤ x86_2
          ·
           rw [if_pos c42] at H
           have c42b0 : decide (0 ≤ x86_2) = true := decide_eq_true c42
           clear c42
           by_cases c43 : x86_2 < (t253.length : Int)
           ·
            rw [if_pos c43] at H
            have c43b0 : decide (x86_2 < (t253.length : Int)) = true := decide_eq_true c43
            clear c43
            by_cases c44 : ((rd_T82 t253 x86_2).f1) = 3
            ·
             rw [if_pos c44] at H
             have c44b0 : (((rd_T82 t253 x86_2).f1) == 3) = true := beq_iff_eq.mpr c44
             have c44b1 : (((rd_T82 t253 x86_2).f1) != 3) = false := bne_eq_false_iff_eq.mpr c44
             clear c44
             by_cases c45 : x15_2.length < 5864062014805
             ·
              rw [if_pos c45] at H
              have LMc45 := Aside0.mk c45
              clear c45
              obtain ⟨y259, hy259⟩ : ∃ y_ : List (S56), y_ = (x15_2 ++ [(⟨2, (rd_T82 t253 x86_2).f2⟩ : S56)]) := ⟨_, rfl⟩
              replace H : (ob_Links.l1 k2 y259 t253 (t253.length : Int) (wrap64 (x86_2 + 1))) = some (r1, r2) := by first | (rw [hy259]; with_reducible exact H) | (have H2_ := (Option.bind_some _ _).symm.trans H; rw [hy259]; with_reducible exact H2_) | (have H2_ := (Option.bind_some _ _).symm.trans H; with_reducible exact H2_) | with_reducible exact H | (rw [hy259]; exact H) | exact H
              have Ny259 := Aside0.mk hy259
              clear hy259
              have H' := Aside0.mk H
              clear H
              have p257 : 0 ≤ (x86_2 : Int) := of_decide_eq_true az_
              have q257 : x86_2 < (t253.length : Int) := of_decide_eq_true az_
              obtain ⟨ad257, e257, hx257_0, hx257_1, hx257_2⟩ := at_T82 (Kd.R_reads' HO_84.out).2.2 x86_2 p257 q257
              cases e257
              replace p257 := eq_true p257
              replace q257 := eq_true q257
              go_wp2_with (first | ((with_reducible refine gate_dst (N := 17) rfl ?_); refine box_event ?hg (N := 17) ?hd (cs := #[.string (⟨#[]⟩ : ByteArray), .int .i64 0, .string (⟨#[]⟩ : ByteArray)]) (t := 82) ?hr ?_; (case hd => rfl); (case hg => rfl); (case hr => first | (go_simp; done) | (go_simp; rfl)); intro gb258 hg w46 hbox hb; have n0_ := Aside0.mk (Kd.R_below (rz_ HO_15.out) hb); have n1_ := Aside0.mk (Kd.R_below (Kd.R_elderB (rz_ HO_84.out) gb258 (Nat.le_of_eq hg.symm)) hb); have n2_ := Aside0.mk (below_step bz_ hb); have n3_ := Aside0.mk (hbox); have n4_ := Aside0.mk ((by rw [hg]; exact (below_size bz_) : w.heap.size ≤ gb258)); have n5_ := Aside0.mk ((by rw [hg]; exact (below_size bz_) : w.heap.size ≤ gb258)); clear HO_15; clear HO_84; clear HB; have HO_15 := n0_; have HO_84 := n1_; have HB := n2_; have BK258 := n3_; have GW258 := n4_; have GE258 := n5_; clear n0_ n1_ n2_ n3_ n4_ n5_; clear hb hbox hg; have hcz47_0 : w46.cell? ⟨gb258, 0, none⟩ = some (.string (⟨#[]⟩ : ByteArray)) := (blk_cell BK258.out 0).trans rfl; have hcz47_1 : w46.cell? ⟨gb258, 1, none⟩ = some (.int .i64 0) := (blk_cell BK258.out 1).trans rfl; have hcz47_2 : w46.cell? ⟨gb258, 2, none⟩ = some (.string (⟨#[]⟩ : ByteArray)) := (blk_cell BK258.out 2).trans rfl; have hfz47_0 := blk_frozen BK258.out 0; have hfz47_1 := blk_frozen BK258.out 1; have hfz47_2 := blk_frozen BK258.out 2) | ((with_reducible refine gate_builtin (b := .append) (xs := #[.tmp 93, .tmp 98]) rfl ?_); at_builtin; refine Kd.R_append k56 (w0 := w) w.heap.size rfl (.tmp 93) (.tmp 98) 48 56 (.agg #[(.int .i64 0), (.string ⟨#[]⟩)]) 24 rfl Tryd.underlying48 info56 rfl (by decide) (by omega) u15 x15_2 (⟨2, (rd_T82 t253 x86_2).f2⟩ : S56) [.int .i64 2, .string ((rd_T82 t253 x86_2).f2)] (fun _ => True) (fun _ => False) rfl (by first | (go_simp; done) | (go_simp; rfl)) ?aP (fun _ hk => hk.elim) ?aF ?aO ?aB ?aS ?aL ?_; (case aP => exact k56_mkM _ _ _ (⟨2, (rd_T82 t253 x86_2).f2⟩ : S56)); (case aB => exact (bs1_ GE258.out)); (case aF => exact (fun _ _ => trivial)); (case aO => exact (rz_ (Kd.R_mono (Kd.R_far (p := ⟨gb258, 2, none⟩) (Kd.R_far (p := ⟨gb258, 1, none⟩) (Kd.R_far (p := ⟨gb258, 0, none⟩) (Kd.R_types HO_15.out BK258.out (by decide)) (fun _ hk => hk.2) (.string ((rd_T82 t253 x86_2).f0))) (fun _ hk => hk.2) (.int .i64 ((rd_T82 t253 x86_2).f1))) (fun _ hk => hk.2) (.string ((rd_T82 t253 x86_2).f2))) (fun _ hk => trivial)))); (case aS => exact (below_size (bs1_ GE258.out))); (case aL => have := LMc45.out; omega); intro v260 w48 ho hb hg hat; rw [← Ny259.out] at ho; have n0_ := Aside0.mk (Kd.R_over' (rz_ ((Kd.R_mono (Kd.R_far (p := ⟨gb258, 2, none⟩) (Kd.R_far (p := ⟨gb258, 1, none⟩) (Kd.R_far (p := ⟨gb258, 0, none⟩) (Kd.R_mono HO_84.out (fun k_ hk => (⟨hk, hk.2⟩ : _ ∧ k_ ≠ gb258))) (fun _ hk => hk.2) (.string ((rd_T82 t253 x86_2).f0))) (fun _ hk => hk.2) (.int .i64 ((rd_T82 t253 x86_2).f1))) (fun _ hk => hk.2) (.string ((rd_T82 t253 x86_2).f2))) (fun _ h_ => h_.1)))) (Kd.R_typed (rz_ ((Kd.R_mono (Kd.R_far (p := ⟨gb258, 2, none⟩) (Kd.R_far (p := ⟨gb258, 1, none⟩) (Kd.R_far (p := ⟨gb258, 0, none⟩) (Kd.R_types HO_15.out BK258.out (by decide)) (fun _ hk => hk.2) (.string ((rd_T82 t253 x86_2).f0))) (fun _ hk => hk.2) (.int .i64 ((rd_T82 t253 x86_2).f1))) (fun _ hk => hk.2) (.string ((rd_T82 t253 x86_2).f2))) (fun _ h_ => h_.1))))) (by decide) hg); have n1_ := Aside0.mk (blk_grown (g := gb258) (o := .cells #[.string ((rd_T82 t253 x86_2).f0), .int .i64 ((rd_T82 t253 x86_2).f1), .string ((rd_T82 t253 x86_2).f2)] 82 (0, 0)) (by (with_reducible repeat (first | refine blk_drewN ?_ _ | refine blk_drew ?_ | refine blk_alloc ?_ _)); refine blk_put (cs := #[.string ((rd_T82 t253 x86_2).f0), .int .i64 ((rd_T82 t253 x86_2).f1), .string (⟨#[]⟩ : ByteArray)]) ?_ 2 _ rfl; (with_reducible repeat (first | refine blk_drewN ?_ _ | refine blk_drew ?_ | refine blk_alloc ?_ _)); refine blk_put (cs := #[.string ((rd_T82 t253 x86_2).f0), .int .i64 0, .string (⟨#[]⟩ : ByteArray)]) ?_ 1 _ rfl; (with_reducible repeat (first | refine blk_drewN ?_ _ | refine blk_drew ?_ | refine blk_alloc ?_ _)); refine blk_put (cs := #[.string (⟨#[]⟩ : ByteArray), .int .i64 0, .string (⟨#[]⟩ : ByteArray)]) ?_ 0 _ rfl; (with_reducible repeat (first | refine blk_drewN ?_ _ | refine blk_drew ?_ | refine blk_alloc ?_ _)); exact BK258.out) hg (Kd.R_ne HO_15.out BK258.out (by decide))); have n2_ := Aside0.mk (hb); have n3_ := Aside0.mk (ho); clear HO_84; clear BK258; clear HB; clear HO_15; have HO_84 := n0_; have BK258 := n1_; have HB := n2_; have HO261 := n3_; clear n0_ n1_ n2_ n3_; clear ho hb hg hat))
              go_roundg k2
              case measure => have := HJ2.out; have := HK2.out; omega
              case rel => exact ⟨(y259), (wrap64 (x86_2 + 1)), ez_, H', ⟨by have := HJ2.out; have := HK2.out; omega⟩, ⟨rz_ HO261.out⟩, ⟨rz_ (Kd.R_mono HO_84.out (fun _ hk => trivial))⟩, ⟨bs1_ GE258.out⟩⟩
             · rw [if_neg c45] at H
               exact absurd H (by simp)
            ·
             rw [if_neg c44] at H
             have c44b0 : (((rd_T82 t253 x86_2).f1) == 3) = false := beq_eq_false_iff_ne.mpr c44
             have c44b1 : (((rd_T82 t253 x86_2).f1) != 3) = true := bne_iff_ne.mpr c44
             by_cases c49 : x15_2.length < 5864062014805
             ·
              rw [if_pos c49] at H
              have LMc49 := Aside0.mk c49
              clear c49
              obtain ⟨y262, hy262⟩ : ∃ y_ : List (S56), y_ = (x15_2 ++ [(⟨1, (rd_T82 t253 x86_2).f2⟩ : S56)]) := ⟨_, rfl⟩
              replace H : (ob_Links.l1 k2 y262 t253 (t253.length : Int) (wrap64 (x86_2 + 1))) = some (r1, r2) := by first | (rw [hy262]; with_reducible exact H) | (have H2_ := (Option.bind_some _ _).symm.trans H; rw [hy262]; with_reducible exact H2_) | (have H2_ := (Option.bind_some _ _).symm.trans H; with_reducible exact H2_) | with_reducible exact H | (rw [hy262]; exact H) | exact H
              have Ny262 := Aside0.mk hy262
              clear hy262
              have H' := Aside0.mk H
              clear H
              have p257 : 0 ≤ (x86_2 : Int) := of_decide_eq_true az_
              have q257 : x86_2 < (t253.length : Int) := of_decide_eq_true az_
              obtain ⟨ad257, e257, hx257_0, hx257_1, hx257_2⟩ := at_T82 (Kd.R_reads' HO_84.out).2.2 x86_2 p257 q257
              cases e257
              replace p257 := eq_true p257
              replace q257 := eq_true q257
              go_wp2_with (first | ((with_reducible refine gate_dst (N := 17) rfl ?_); refine box_event ?hg (N := 17) ?hd (cs := #[.string (⟨#[]⟩ : ByteArray), .int .i64 0, .string (⟨#[]⟩ : ByteArray)]) (t := 82) ?hr ?_; (case hd => rfl); (case hg => rfl); (case hr => first | (go_simp; done) | (go_simp; rfl)); intro gb258 hg w50 hbox hb; have n0_ := Aside0.mk (Kd.R_below (rz_ HO_15.out) hb); have n1_ := Aside0.mk (Kd.R_below (Kd.R_elderB (rz_ HO_84.out) gb258 (Nat.le_of_eq hg.symm)) hb); have n2_ := Aside0.mk (below_step bz_ hb); have n3_ := Aside0.mk (hbox); have n4_ := Aside0.mk ((by rw [hg]; exact (below_size bz_) : w.heap.size ≤ gb258)); have n5_ := Aside0.mk ((by rw [hg]; exact (below_size bz_) : w.heap.size ≤ gb258)); clear HO_15; clear HO_84; clear HB; have HO_15 := n0_; have HO_84 := n1_; have HB := n2_; have BK258 := n3_; have GW258 := n4_; have GE258 := n5_; clear n0_ n1_ n2_ n3_ n4_ n5_; clear hb hbox hg; have hcz51_0 : w50.cell? ⟨gb258, 0, none⟩ = some (.string (⟨#[]⟩ : ByteArray)) := (blk_cell BK258.out 0).trans rfl; have hcz51_1 : w50.cell? ⟨gb258, 1, none⟩ = some (.int .i64 0) := (blk_cell BK258.out 1).trans rfl; have hcz51_2 : w50.cell? ⟨gb258, 2, none⟩ = some (.string (⟨#[]⟩ : ByteArray)) := (blk_cell BK258.out 2).trans rfl; have hfz51_0 := blk_frozen BK258.out 0; have hfz51_1 := blk_frozen BK258.out 1; have hfz51_2 := blk_frozen BK258.out 2) | ((with_reducible refine gate_builtin (b := .append) (xs := #[.tmp 93, .tmp 98]) rfl ?_); at_builtin; refine Kd.R_append k56 (w0 := w) w.heap.size rfl (.tmp 93) (.tmp 98) 48 56 (.agg #[(.int .i64 0), (.string ⟨#[]⟩)]) 24 rfl Tryd.underlying48 info56 rfl (by decide) (by omega) u15 x15_2 (⟨1, (rd_T82 t253 x86_2).f2⟩ : S56) [.int .i64 1, .string ((rd_T82 t253 x86_2).f2)] (fun _ => True) (fun _ => False) rfl (by first | (go_simp; done) | (go_simp; rfl)) ?aP (fun _ hk => hk.elim) ?aF ?aO ?aB ?aS ?aL ?_; (case aP => exact k56_mkM _ _ _ (⟨1, (rd_T82 t253 x86_2).f2⟩ : S56)); (case aB => exact (bs1_ GE258.out)); (case aF => exact (fun _ _ => trivial)); (case aO => exact (rz_ (Kd.R_mono (Kd.R_far (p := ⟨gb258, 2, none⟩) (Kd.R_far (p := ⟨gb258, 1, none⟩) (Kd.R_far (p := ⟨gb258, 0, none⟩) (Kd.R_types HO_15.out BK258.out (by decide)) (fun _ hk => hk.2) (.string ((rd_T82 t253 x86_2).f0))) (fun _ hk => hk.2) (.int .i64 ((rd_T82 t253 x86_2).f1))) (fun _ hk => hk.2) (.string ((rd_T82 t253 x86_2).f2))) (fun _ hk => trivial)))); (case aS => exact (below_size (bs1_ GE258.out))); (case aL => have := LMc49.out; omega); intro v263 w52 ho hb hg hat; rw [← Ny262.out] at ho; have n0_ := Aside0.mk (Kd.R_over' (rz_ ((Kd.R_mono (Kd.R_far (p := ⟨gb258, 2, none⟩) (Kd.R_far (p := ⟨gb258, 1, none⟩) (Kd.R_far (p := ⟨gb258, 0, none⟩) (Kd.R_mono HO_84.out (fun k_ hk => (⟨hk, hk.2⟩ : _ ∧ k_ ≠ gb258))) (fun _ hk => hk.2) (.string ((rd_T82 t253 x86_2).f0))) (fun _ hk => hk.2) (.int .i64 ((rd_T82 t253 x86_2).f1))) (fun _ hk => hk.2) (.string ((rd_T82 t253 x86_2).f2))) (fun _ h_ => h_.1)))) (Kd.R_typed (rz_ ((Kd.R_mono (Kd.R_far (p := ⟨gb258, 2, none⟩) (Kd.R_far (p := ⟨gb258, 1, none⟩) (Kd.R_far (p := ⟨gb258, 0, none⟩) (Kd.R_types HO_15.out BK258.out (by decide)) (fun _ hk => hk.2) (.string ((rd_T82 t253 x86_2).f0))) (fun _ hk => hk.2) (.int .i64 ((rd_T82 t253 x86_2).f1))) (fun _ hk => hk.2) (.string ((rd_T82 t253 x86_2).f2))) (fun _ h_ => h_.1))))) (by decide) hg); have n1_ := Aside0.mk (blk_grown (g := gb258) (o := .cells #[.string ((rd_T82 t253 x86_2).f0), .int .i64 ((rd_T82 t253 x86_2).f1), .string ((rd_T82 t253 x86_2).f2)] 82 (0, 0)) (by (with_reducible repeat (first | refine blk_drewN ?_ _ | refine blk_drew ?_ | refine blk_alloc ?_ _)); refine blk_put (cs := #[.string ((rd_T82 t253 x86_2).f0), .int .i64 ((rd_T82 t253 x86_2).f1), .string (⟨#[]⟩ : ByteArray)]) ?_ 2 _ rfl; (with_reducible repeat (first | refine blk_drewN ?_ _ | refine blk_drew ?_ | refine blk_alloc ?_ _)); refine blk_put (cs := #[.string ((rd_T82 t253 x86_2).f0), .int .i64 0, .string (⟨#[]⟩ : ByteArray)]) ?_ 1 _ rfl; (with_reducible repeat (first | refine blk_drewN ?_ _ | refine blk_drew ?_ | refine blk_alloc ?_ _)); refine blk_put (cs := #[.string (⟨#[]⟩ : ByteArray), .int .i64 0, .string (⟨#[]⟩ : ByteArray)]) ?_ 0 _ rfl; (with_reducible repeat (first | refine blk_drewN ?_ _ | refine blk_drew ?_ | refine blk_alloc ?_ _)); exact BK258.out) hg (Kd.R_ne HO_15.out BK258.out (by decide))); have n2_ := Aside0.mk (hb); have n3_ := Aside0.mk (ho); clear HO_84; clear BK258; clear HB; clear HO_15; have HO_84 := n0_; have BK258 := n1_; have HB := n2_; have HO264 := n3_; clear n0_ n1_ n2_ n3_; clear ho hb hg hat))
              go_roundg k2
              case measure => have := HJ2.out; have := HK2.out; omega
              case rel => exact ⟨(y262), (wrap64 (x86_2 + 1)), ez_, H', ⟨by have := HJ2.out; have := HK2.out; omega⟩, ⟨rz_ HO264.out⟩, ⟨rz_ (Kd.R_mono HO_84.out (fun _ hk => trivial))⟩, ⟨bs1_ GE258.out⟩⟩
             · rw [if_neg c49] at H
               exact absurd H (by simp)
           · rw [if_neg c43] at H
             exact absurd H (by simp)
          · rw [if_neg c42] at H
            exact absurd H (by simp)
         · rw [if_neg c41] at H
           have c41b0 : decide (x86_2 < (t253.length : Int)) = false := decide_eq_false c41
           clear c41
           simp only [Option.some.injEq, Prod.mk.injEq] at H
           obtain ⟨rfl, rfl⟩ := H
           go_wp2
           go_ret2
           exact ⟨_, xz_, rz_ HO_15.out, bz_⟩
      · rw [if_neg c38] at H
        have c38b0 : (t254 == 0) = false := beq_eq_false_iff_ne.mpr c38
        have c38b1 : (t254 != 0) = true := bne_iff_ne.mpr c38
        simp only [Option.some.injEq, Prod.mk.injEq] at H
        obtain ⟨rfl, rfl⟩ := H
        go_wp2_with (first | ((with_reducible refine gate_callee (f := 46) rfl ?_); refine goesM_ (some 78) Tryd.func46 #[.string t226] ?_; (with_reducible refine (tree_Decode.calls kj2 t226 t253 t254 _ A37.out).mono ?_); rintro e w53 ⟨v255, rfl, ho0, hb⟩; refine ⟨_, rfl, ?_⟩; have n0_ := Aside0.mk (Kd.R_lower ho0 (below_size bz_)); have n1_ := Aside0.mk (below_step bz_ hb); clear HB; have HO256 := n0_; have HB := n1_; clear n0_ n1_; (try clear hb); (try clear hb2); (try clear hk); (try clear hi); (try clear ho0)))
        go_ret2
        exact ⟨_, xz_, nz_, bz_⟩

end Go.Proofs.YtnapcfpecpgdbaaDoor.M
