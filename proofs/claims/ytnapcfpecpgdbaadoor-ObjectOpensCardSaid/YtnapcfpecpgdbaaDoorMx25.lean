/- The program's functions as plain functions, and that each call comes to what these tell; written by a program of this session, some contracts by hand. Conditions: none. -/
import Derived.Test.YtnapcfpecpgdbaaDoorMx0
import Derived.Test.YtnapcfpecpgdbaaDoorMx17
import Derived.Test.YtnapcfpecpgdbaaDoorMx24
namespace Go.Proofs.YtnapcfpecpgdbaaDoor.M
open Go.RowKit Go.Proofs.YtnapcfpecpgdbaaDoorW.PrintWords Go.Proofs.YtnapcfpecpgdbaaDoorW.PrintLast Go.Proofs.YtnapcfpecpgdbaaDoorW.PrintMore
attribute [local go_sem] max2_int min2_int max_two min_two max_three min_three max_four min_four   -- for this text's walks alone
set_option linter.unusedVariables false
set_option linter.unusedSimpArgs false

/-! ### r7_CheckTag: function 69 -/
def r7_CheckTag.j0 : Nat → Bool → ByteArray → Int → ByteArray → ByteArray → Option (Int)
 | 0, _, _, _, _, _ => none
 | k + 1, x10, x335000, x335001, x335002, x335003 => if x10 = true then (some 70) else (if (x335000.size : Int) = 32 then (if 5 + x335002.size ≤ 9223372036854775807 then ((r5_Ref.f k ((⟨#[116, 97, 103, 115, 47]⟩ : ByteArray) ++ x335002)).bind fun t335 => (if t335 = 0 then (some 6) else ((r7_text.f k x335003).bind fun t336 => (if t336 = true then (some 0) else (some 6))))) else (none)) else (some 6))
def r7_CheckTag.f (k : Nat) (a0_0 : ByteArray) (a0_1 : Int) (a0_2 : ByteArray) (a0_3 : ByteArray) : Option (Int) := if a0_1 < 1 then (r7_CheckTag.j0 k true a0_0 a0_1 a0_2 a0_3) else (r7_CheckTag.j0 k (decide (a0_1 > 4)) a0_0 a0_1 a0_2 a0_3)
theorem r7_CheckTag.mono_l : ∀ k, (∀ y0 y1 y2 y3 y4, LeO (r7_CheckTag.j0 k y0 y1 y2 y3 y4) (r7_CheckTag.j0 (k + 1) y0 y1 y2 y3 y4))
 | 0 => fun _ _ _ _ _ r h => by simp [r7_CheckTag.j0] at h
 | k + 1 => by
  have ih0 := r7_CheckTag.mono_l k
  ·
   intro y0 y1 y2 y3 y4
   unfold r7_CheckTag.j0
   repeat' with_reducible first | exact ih0 _ _ _ _ _ | exact r5_Ref.mono _ _ | exact r7_text.mono _ _ | exact LeO.refl _ | exact LeO.none _ | refine LeO.ite ?_ ?_ | refine LeO.bind ?_ (fun _ => ?_)
theorem r7_CheckTag.mono : ∀ a0 a1 a2 a3 k, LeO (r7_CheckTag.f k a0 a1 a2 a3) (r7_CheckTag.f (k + 1) a0 a1 a2 a3) := by
 intro a0 a1 a2 a3 k
 have ih0 := r7_CheckTag.mono_l k
 unfold r7_CheckTag.f
 repeat' with_reducible first | exact ih0 _ _ _ _ _ | exact r5_Ref.mono _ _ | exact r7_text.mono _ _ | exact LeO.refl _ | exact LeO.none _ | refine LeO.ite ?_ ?_ | refine LeO.bind ?_ (fun _ => ?_)
set_option maxHeartbeats 8000000 in
set_option maxRecDepth 100000 in
theorem r7_CheckTag.calls (k : Nat) (a0_0 : ByteArray) (a0_1 : Int) (a0_2 : ByteArray) (a0_3 : ByteArray) (r : Int) (w : World) (h : r7_CheckTag.f k a0_0 a0_1 a0_2 a0_3 = some r) :
 Calls Tryd.prog 69 #[.agg #[.string a0_0, .int .i64 a0_1, .string a0_2, .string a0_3]] w fun e w' => e = .returned (.int .i64 r) ∧ Below w.heap.size w w' := by
 have hu87 := Tryd.underlying87
 have HB := Aside0.mk (Below.refl w.heap.size w)
 have H : (if a0_1 < 1 then (r7_CheckTag.j0 k true a0_0 a0_1 a0_2 a0_3) else (r7_CheckTag.j0 k (decide (a0_1 > 4)) a0_0 a0_1 a0_2 a0_3)) = some r := h
 clear h
 have HC2 := Aside0.mk H
 clear H
 go_enter Tryd.func69, Tryd.ntmps69
 go_upto_region 1 with (first | ((with_reducible refine gate_dst (N := 1) rfl ?_); refine box_event ?hg (N := 1) ?hd (cs := #[.string a0_0, .int .i64 a0_1, .string a0_2, .string a0_3]) (t := 87) ?hr ?_; (case hd => rfl); (case hg => rfl); (case hr => first | (go_simp; done) | (go_simp; rfl)); intro gb334 hg w3 hbox hb; have n0_ := Aside0.mk (below_step bz_ hb); have n1_ := Aside0.mk (hbox); have n2_ := Aside0.mk ((by rw [hg]; exact (below_size bz_) : w.heap.size ≤ gb334)); have n3_ := Aside0.mk ((by rw [hg]; exact (below_size bz_) : w.heap.size ≤ gb334)); clear HB; have HB := n0_; have BK334 := n1_; have GW334 := n2_; have GE334 := n3_; clear n0_ n1_ n2_ n3_; clear hb hbox hg))
 (try simp only [Act.put, List.setIfInBounds_toArray, List.set_cons_zero, List.set_cons_succ])
 go_cut [10] (fun v10 wc => ∃ (kq : Nat) (x10_1 : Bool), v10 = .bool x10_1 ∧ Aside0 (r7_CheckTag.j0 kq x10_1 a0_0 a0_1 a0_2 a0_3 = some r) ∧ Aside0 (kq ≤ k) ∧ Aside0 (wc.heap[gb334]? = some (.cells #[.string a0_0, .int .i64 a0_1, .string a0_2, .string a0_3] 87 (0, 0))) ∧ Aside0 (Below w.heap.size w wc))
 case first =>
  have H := HC2.out
  clear HC2
  by_cases c4 : a0_1 < 1
  ·
   rw [if_pos c4] at H
   have c4b0 : decide (a0_1 < 1) = true := decide_eq_true c4
   clear c4
   (first | rw [c4b0] | (simp only [i64_w, i32_w]; rw [c4b0]) | skip)
   have H' := Aside0.mk H
   clear H
   have hcz5_0 : w3.cell? ⟨gb334, 0, none⟩ = some (.string a0_0) := (blk_cell BK334.out 0).trans rfl
   have hcz5_1 : w3.cell? ⟨gb334, 1, none⟩ = some (.int .i64 a0_1) := (blk_cell BK334.out 1).trans rfl
   have hcz5_2 : w3.cell? ⟨gb334, 2, none⟩ = some (.string a0_2) := (blk_cell BK334.out 2).trans rfl
   have hcz5_3 : w3.cell? ⟨gb334, 3, none⟩ = some (.string a0_3) := (blk_cell BK334.out 3).trans rfl
   have hfz5_0 := blk_frozen BK334.out 0
   have hfz5_1 := blk_frozen BK334.out 1
   have hfz5_2 := blk_frozen BK334.out 2
   have hfz5_3 := blk_frozen BK334.out 3
   go_wp2
   go_meet
   case rel => exact ⟨_, (true), ez_, H', ⟨by first | omega | exact Nat.le_refl _⟩, ⟨kz_ BK334.out⟩, ⟨bs1_ GE334.out⟩⟩
  ·
   rw [if_neg c4] at H
   have c4b0 : decide (a0_1 < 1) = false := decide_eq_false c4
   clear c4
   (first | rw [c4b0] | (simp only [i64_w, i32_w]; rw [c4b0]) | skip)
   have H' := Aside0.mk H
   clear H
   have hcz6_0 : w3.cell? ⟨gb334, 0, none⟩ = some (.string a0_0) := (blk_cell BK334.out 0).trans rfl
   have hcz6_1 : w3.cell? ⟨gb334, 1, none⟩ = some (.int .i64 a0_1) := (blk_cell BK334.out 1).trans rfl
   have hcz6_2 : w3.cell? ⟨gb334, 2, none⟩ = some (.string a0_2) := (blk_cell BK334.out 2).trans rfl
   have hcz6_3 : w3.cell? ⟨gb334, 3, none⟩ = some (.string a0_3) := (blk_cell BK334.out 3).trans rfl
   have hfz6_0 := blk_frozen BK334.out 0
   have hfz6_1 := blk_frozen BK334.out 1
   have hfz6_2 := blk_frozen BK334.out 2
   have hfz6_3 := blk_frozen BK334.out 3
   go_wp2
   go_meet
   case rel => exact ⟨_, (decide (a0_1 > 4)), ez_, H', ⟨by first | omega | exact Nat.le_refl _⟩, ⟨kz_ BK334.out⟩, ⟨bs1_ GE334.out⟩⟩
 case rest =>
  clear HC2
  try clear p2
  try clear c4
  try clear c4b0
  try clear c6
  try clear hcz5_0
  try clear hcz5_1
  try clear hcz5_2
  try clear hcz5_3
  try clear hcz6_0
  try clear hcz6_1
  try clear hcz6_2
  try clear hcz6_3
  try clear hfz5_0
  try clear hfz5_1
  try clear hfz5_2
  try clear hfz5_3
  try clear hfz6_0
  try clear hfz6_1
  try clear hfz6_2
  try clear hfz6_3
  obtain ⟨kq, x10_1, rfl, HA, HJ1, BK334, HB⟩ := hcut
  cases kq with
  | zero => exact absurd HA.out (by simp [r7_CheckTag.j0])
  | succ kj1 =>
   have H := HA.out
   clear HA
   simp only [r7_CheckTag.j0] at H
   by_cases c7 : x10_1 = true
   · subst c7
     have H1 := H
     rw [if_pos rfl] at H1
     clear H
     have H := H1
     clear H1
     obtain rfl := Option.some.inj H
     go_wp2
     go_ret
     exact ⟨xz_, bs1_ GE334.out⟩
   ·
    replace c7 := Bool.eq_false_iff.mpr c7
    subst c7
    have H1 := H
    rw [if_neg (show ¬ (false = true) by decide)] at H1
    clear H
    have H := H1
    clear H1
    by_cases c8 : (a0_0.size : Int) = 32
    ·
     rw [if_pos c8] at H
     have c8b0 : ((a0_0.size : Int) == 32) = true := beq_iff_eq.mpr c8
     have c8b1 : ((a0_0.size : Int) != 32) = false := bne_eq_false_iff_eq.mpr c8
     clear c8
     by_cases c9 : 5 + a0_2.size ≤ 9223372036854775807
     ·
      rw [if_pos c9] at H
      have c9b0 := eq_true c9
      have c9b1 : decide (5 + a0_2.size ≤ 9223372036854775807) = true := decide_eq_true c9
      try have c9b2 : (9223372036854775807 < 5 + a0_2.size) = False := eq_false (Nat.not_lt.2 c9)
      replace H := Option.bind_eq_some_iff.mp H
      obtain ⟨t335, A100, H⟩ := H
      try dsimp only at H
      have A10 := Aside0.mk A100
      clear A100
      by_cases c11 : t335 = 0
      ·
       rw [if_pos c11] at H
       have c11b0 : (t335 == 0) = true := beq_iff_eq.mpr c11
       have c11b1 : (t335 != 0) = false := bne_eq_false_iff_eq.mpr c11
       clear c11
       obtain rfl := Option.some.inj H
       have hcz12_0 : wc.cell? ⟨gb334, 0, none⟩ = some (.string a0_0) := (blk_cell BK334.out 0).trans rfl
       have hcz12_1 : wc.cell? ⟨gb334, 1, none⟩ = some (.int .i64 a0_1) := (blk_cell BK334.out 1).trans rfl
       have hcz12_2 : wc.cell? ⟨gb334, 2, none⟩ = some (.string a0_2) := (blk_cell BK334.out 2).trans rfl
       have hcz12_3 : wc.cell? ⟨gb334, 3, none⟩ = some (.string a0_3) := (blk_cell BK334.out 3).trans rfl
       have hfz12_0 := blk_frozen BK334.out 0
       have hfz12_1 := blk_frozen BK334.out 1
       have hfz12_2 := blk_frozen BK334.out 2
       have hfz12_3 := blk_frozen BK334.out 3
       go_wp2_with (first | (go_at_call 84; (with_reducible refine (r5_Ref.calls kj1 ((⟨#[116, 97, 103, 115, 47]⟩ : ByteArray) ++ a0_2) t335 _ A10.out).mono ?_); rintro e w' ⟨rfl, ⟨nd, rfl⟩⟩))
       go_ret
       exact ⟨xz_, bs1_ GE334.out⟩
      ·
       rw [if_neg c11] at H
       have c11b0 : (t335 == 0) = false := beq_eq_false_iff_ne.mpr c11
       have c11b1 : (t335 != 0) = true := bne_iff_ne.mpr c11
       replace H := Option.bind_eq_some_iff.mp H
       obtain ⟨t336, A130, H⟩ := H
       try dsimp only at H
       have A13 := Aside0.mk A130
       clear A130
       by_cases c14 : t336 = true
       ·
        subst c14
        have H1 := H
        rw [if_pos rfl] at H1
        clear H
        have H := H1
        clear H1
        obtain rfl := Option.some.inj H
        have hcz15_0 : wc.cell? ⟨gb334, 0, none⟩ = some (.string a0_0) := (blk_cell BK334.out 0).trans rfl
        have hcz15_1 : wc.cell? ⟨gb334, 1, none⟩ = some (.int .i64 a0_1) := (blk_cell BK334.out 1).trans rfl
        have hcz15_2 : wc.cell? ⟨gb334, 2, none⟩ = some (.string a0_2) := (blk_cell BK334.out 2).trans rfl
        have hcz15_3 : wc.cell? ⟨gb334, 3, none⟩ = some (.string a0_3) := (blk_cell BK334.out 3).trans rfl
        have hfz15_0 := blk_frozen BK334.out 0
        have hfz15_1 := blk_frozen BK334.out 1
        have hfz15_2 := blk_frozen BK334.out 2
        have hfz15_3 := blk_frozen BK334.out 3
        go_wp2_with (first | (go_at_call 84; (with_reducible refine (r5_Ref.calls kj1 ((⟨#[116, 97, 103, 115, 47]⟩ : ByteArray) ++ a0_2) t335 _ A10.out).mono ?_); rintro e w' ⟨rfl, ⟨nd, rfl⟩⟩) | (go_at_call 32; (with_reducible refine (r7_text.calls kj1 a0_3 true _ A13.out).mono ?_); rintro e w' ⟨rfl, ⟨nd, rfl⟩⟩))
        go_ret
        exact ⟨xz_, bs1_ GE334.out⟩
       ·
        replace c14 := Bool.eq_false_iff.mpr c14
        subst c14
        have H1 := H
        rw [if_neg (show ¬ (false = true) by decide)] at H1
        clear H
        have H := H1
        clear H1
        obtain rfl := Option.some.inj H
        have hcz16_0 : wc.cell? ⟨gb334, 0, none⟩ = some (.string a0_0) := (blk_cell BK334.out 0).trans rfl
        have hcz16_1 : wc.cell? ⟨gb334, 1, none⟩ = some (.int .i64 a0_1) := (blk_cell BK334.out 1).trans rfl
        have hcz16_2 : wc.cell? ⟨gb334, 2, none⟩ = some (.string a0_2) := (blk_cell BK334.out 2).trans rfl
        have hcz16_3 : wc.cell? ⟨gb334, 3, none⟩ = some (.string a0_3) := (blk_cell BK334.out 3).trans rfl
        have hfz16_0 := blk_frozen BK334.out 0
        have hfz16_1 := blk_frozen BK334.out 1
        have hfz16_2 := blk_frozen BK334.out 2
        have hfz16_3 := blk_frozen BK334.out 3
        go_wp2_with (first | (go_at_call 84; (with_reducible refine (r5_Ref.calls kj1 ((⟨#[116, 97, 103, 115, 47]⟩ : ByteArray) ++ a0_2) t335 _ A10.out).mono ?_); rintro e w' ⟨rfl, ⟨nd, rfl⟩⟩) | (go_at_call 32; (with_reducible refine (r7_text.calls kj1 a0_3 false _ A13.out).mono ?_); rintro e w' ⟨rfl, ⟨nd, rfl⟩⟩))
        go_ret
        exact ⟨xz_, bs1_ GE334.out⟩
     · rw [if_neg c9] at H
       exact absurd H (by simp)
    ·
     rw [if_neg c8] at H
     have c8b0 : ((a0_0.size : Int) == 32) = false := beq_eq_false_iff_ne.mpr c8
     have c8b1 : ((a0_0.size : Int) != 32) = true := bne_iff_ne.mpr c8
     obtain rfl := Option.some.inj H
     have hcz17_0 : wc.cell? ⟨gb334, 0, none⟩ = some (.string a0_0) := (blk_cell BK334.out 0).trans rfl
     have hcz17_1 : wc.cell? ⟨gb334, 1, none⟩ = some (.int .i64 a0_1) := (blk_cell BK334.out 1).trans rfl
     have hcz17_2 : wc.cell? ⟨gb334, 2, none⟩ = some (.string a0_2) := (blk_cell BK334.out 2).trans rfl
     have hcz17_3 : wc.cell? ⟨gb334, 3, none⟩ = some (.string a0_3) := (blk_cell BK334.out 3).trans rfl
     have hfz17_0 := blk_frozen BK334.out 0
     have hfz17_1 := blk_frozen BK334.out 1
     have hfz17_2 := blk_frozen BK334.out 2
     have hfz17_3 := blk_frozen BK334.out 3
     go_wp2
     go_ret
     exact ⟨xz_, bs1_ GE334.out⟩

end Go.Proofs.YtnapcfpecpgdbaaDoor.M
