/- The program's functions as plain functions, and that each call comes to what these tell; written by a program of this session, some contracts by hand. Conditions: none. -/
import Derived.Test.YtflogdjehghkpaaDoorMx0
import Derived.Test.YtflogdjehghkpaaDoorMx8
import Derived.Test.YtflogdjehghkpaaDoorMx9
namespace Go.Proofs.YtflogdjehghkpaaDoor.M
open Go.RowKit Go.Proofs.YtflogdjehghkpaaDoorW.PrintWords Go.Proofs.YtflogdjehghkpaaDoorW.PrintLast Go.Proofs.YtflogdjehghkpaaDoorW.PrintMore
attribute [local go_sem] max2_int min2_int max_two min_two max_three min_three max_four min_four   -- for this text's walks alone
set_option linter.unusedVariables false
set_option linter.unusedSimpArgs false

/-! ### pollardref18_Show: function 17 -/
mutual
def pollardref18_Show.l0 : Nat → List ByteArray → List ByteArray → List (S34) → ByteArray → Int → Int → Int → Option (ByteArray)
  | 0, _, _, _, _, _, _, _ => none
  | k + 1, x0, x1, x5, x6, x7, x8, x9 => if x9 ≤ (x5.length : Int) then (if x9 < (x5.length : Int) then (if 0 ≤ x9 then (pollardref18_Show.j1 k x0 x1 x5 x6 x7 x8 x9 ((rd_T34 x5 x9).f0) ((rd_T34 x5 x9).f1)) else (none)) else (pollardref18_Show.j1 k x0 x1 x5 x6 x7 x8 x9 (x0.length : Int) (x1.length : Int))) else (some x6)
def pollardref18_Show.j1 : Nat → List ByteArray → List ByteArray → List (S34) → ByteArray → Int → Int → Int → Int → Int → Option (ByteArray)
  | 0, _, _, _, _, _, _, _, _, _ => none
  | k + 1, x0, x1, x5, x6, x7, x8, x9, x182000, x182001 => pollardref18_Show.l1 k x0 x1 x5 x6 x7 x8 x9 x182000 x182001
def pollardref18_Show.l1 : Nat → List ByteArray → List ByteArray → List (S34) → ByteArray → Int → Int → Int → Int → Int → Option (ByteArray)
  | 0, _, _, _, _, _, _, _, _, _ => none
  | k + 1, x0, x1, x5, x6, x7, x8, x9, x182000, x182001 => if x7 < x182000 then (if 0 ≤ x7 then (if x7 < (x0.length : Int) then ((pollardref18_bare.f (rdOf ByteArray.empty x0 x7)).bind fun t184 => (if 1 + t184.size ≤ 9223372036854775807 then (if (1 + t184.size) + 1 ≤ 9223372036854775807 then (if x6.size + ((1 + t184.size) + 1) ≤ 9223372036854775807 then (pollardref18_Show.l1 k x0 x1 x5 (x6 ++ (((⟨#[45]⟩ : ByteArray) ++ t184) ++ (⟨#[10]⟩ : ByteArray))) (wrap64 (x7 + 1)) x8 x9 x182000 x182001) else (none)) else (none)) else (none))) else (none)) else (none)) else (pollardref18_Show.l2 k x0 x1 x5 x6 x7 x8 x9 x182000 x182001)
def pollardref18_Show.l2 : Nat → List ByteArray → List ByteArray → List (S34) → ByteArray → Int → Int → Int → Int → Int → Option (ByteArray)
  | 0, _, _, _, _, _, _, _, _, _ => none
  | k + 1, x0, x1, x5, x6, x7, x8, x9, x182000, x182001 => if x8 < x182001 then (if 0 ≤ x8 then (if x8 < (x1.length : Int) then ((pollardref18_bare.f (rdOf ByteArray.empty x1 x8)).bind fun t186 => (if 1 + t186.size ≤ 9223372036854775807 then (if (1 + t186.size) + 1 ≤ 9223372036854775807 then (if x6.size + ((1 + t186.size) + 1) ≤ 9223372036854775807 then (pollardref18_Show.l2 k x0 x1 x5 (x6 ++ (((⟨#[43]⟩ : ByteArray) ++ t186) ++ (⟨#[10]⟩ : ByteArray))) x7 (wrap64 (x8 + 1)) x9 x182000 x182001) else (none)) else (none)) else (none))) else (none)) else (none)) else (if x9 < (x5.length : Int) then (if 0 ≤ x7 then (if x7 < (x0.length : Int) then ((pollardref18_bare.f (rdOf ByteArray.empty x0 x7)).bind fun t188 => (if 1 + t188.size ≤ 9223372036854775807 then (if (1 + t188.size) + 1 ≤ 9223372036854775807 then (if x6.size + ((1 + t188.size) + 1) ≤ 9223372036854775807 then (pollardref18_Show.l0 k x0 x1 x5 (x6 ++ (((⟨#[32]⟩ : ByteArray) ++ t188) ++ (⟨#[10]⟩ : ByteArray))) (wrap64 (x7 + 1)) (wrap64 (x8 + 1)) (wrap64 (x9 + 1))) else (none)) else (none)) else (none))) else (none)) else (none)) else (pollardref18_Show.l0 k x0 x1 x5 x6 (wrap64 (x7 + 1)) (wrap64 (x8 + 1)) (wrap64 (x9 + 1))))
end
def pollardref18_Show.f (k : Nat) (l0 : List ByteArray) (l1 : List ByteArray) : Option (ByteArray) := (pollardref18_Pairs.f k l0 l1).bind fun t178 => (pollardref18_Show.l0 k l0 l1 t178 (⟨#[]⟩ : ByteArray) 0 0 0)
theorem pollardref18_Show.mono_l : ∀ k, (∀ y0 y1 y2 y3 y4 y5 y6, LeO (pollardref18_Show.l0 k y0 y1 y2 y3 y4 y5 y6) (pollardref18_Show.l0 (k + 1) y0 y1 y2 y3 y4 y5 y6)) ∧ (∀ y0 y1 y2 y3 y4 y5 y6 y7 y8, LeO (pollardref18_Show.j1 k y0 y1 y2 y3 y4 y5 y6 y7 y8) (pollardref18_Show.j1 (k + 1) y0 y1 y2 y3 y4 y5 y6 y7 y8)) ∧ (∀ y0 y1 y2 y3 y4 y5 y6 y7 y8, LeO (pollardref18_Show.l1 k y0 y1 y2 y3 y4 y5 y6 y7 y8) (pollardref18_Show.l1 (k + 1) y0 y1 y2 y3 y4 y5 y6 y7 y8)) ∧ (∀ y0 y1 y2 y3 y4 y5 y6 y7 y8, LeO (pollardref18_Show.l2 k y0 y1 y2 y3 y4 y5 y6 y7 y8) (pollardref18_Show.l2 (k + 1) y0 y1 y2 y3 y4 y5 y6 y7 y8))
  | 0 => ⟨fun _ _ _ _ _ _ _ r h => by simp [pollardref18_Show.l0] at h, fun _ _ _ _ _ _ _ _ _ r h => by simp [pollardref18_Show.j1] at h, fun _ _ _ _ _ _ _ _ _ r h => by simp [pollardref18_Show.l1] at h, fun _ _ _ _ _ _ _ _ _ r h => by simp [pollardref18_Show.l2] at h⟩
  | k + 1 => by
    obtain ⟨ih0, ih1, ih2, ih3⟩ := pollardref18_Show.mono_l k
    refine ⟨?_, ?_, ?_, ?_⟩
    · intro y0 y1 y2 y3 y4 y5 y6
      unfold pollardref18_Show.l0
      repeat' first
      | (with_reducible exact ih0 _ _ _ _ _ _ _)
      | (with_reducible exact ih1 _ _ _ _ _ _ _ _ _)
      | (with_reducible exact ih2 _ _ _ _ _ _ _ _ _)
      | (with_reducible exact ih3 _ _ _ _ _ _ _ _ _)
      | (with_reducible exact pollardref18_Pairs.mono _ _ _)
      | (with_reducible exact LeO.refl _)
      | (with_reducible exact LeO.none _)
      | (with_reducible refine LeO.ite ?_ ?_)
      | (with_reducible refine LeO.bind ?_ (fun _ => ?_))
      | exact ih0 _ _ _ _ _ _ _
      | exact ih1 _ _ _ _ _ _ _ _ _
      | exact ih2 _ _ _ _ _ _ _ _ _
      | exact ih3 _ _ _ _ _ _ _ _ _
      | exact pollardref18_Pairs.mono _ _ _
      | exact LeO.none _
      | refine LeO.ite ?_ ?_
      | refine LeO.bind ?_ (fun _ => ?_)
    · intro y0 y1 y2 y3 y4 y5 y6 y7 y8
      unfold pollardref18_Show.j1
      repeat' first
      | (with_reducible exact ih0 _ _ _ _ _ _ _)
      | (with_reducible exact ih1 _ _ _ _ _ _ _ _ _)
      | (with_reducible exact ih2 _ _ _ _ _ _ _ _ _)
      | (with_reducible exact ih3 _ _ _ _ _ _ _ _ _)
      | (with_reducible exact pollardref18_Pairs.mono _ _ _)
      | (with_reducible exact LeO.refl _)
      | (with_reducible exact LeO.none _)
      | (with_reducible refine LeO.ite ?_ ?_)
      | (with_reducible refine LeO.bind ?_ (fun _ => ?_))
      | exact ih0 _ _ _ _ _ _ _
      | exact ih1 _ _ _ _ _ _ _ _ _
      | exact ih2 _ _ _ _ _ _ _ _ _
      | exact ih3 _ _ _ _ _ _ _ _ _
      | exact pollardref18_Pairs.mono _ _ _
      | exact LeO.none _
      | refine LeO.ite ?_ ?_
      | refine LeO.bind ?_ (fun _ => ?_)
    · intro y0 y1 y2 y3 y4 y5 y6 y7 y8
      unfold pollardref18_Show.l1
      repeat' first
      | (with_reducible exact ih0 _ _ _ _ _ _ _)
      | (with_reducible exact ih1 _ _ _ _ _ _ _ _ _)
      | (with_reducible exact ih2 _ _ _ _ _ _ _ _ _)
      | (with_reducible exact ih3 _ _ _ _ _ _ _ _ _)
      | (with_reducible exact pollardref18_Pairs.mono _ _ _)
      | (with_reducible exact LeO.refl _)
      | (with_reducible exact LeO.none _)
      | (with_reducible refine LeO.ite ?_ ?_)
      | (with_reducible refine LeO.bind ?_ (fun _ => ?_))
      | exact ih0 _ _ _ _ _ _ _
      | exact ih1 _ _ _ _ _ _ _ _ _
      | exact ih2 _ _ _ _ _ _ _ _ _
      | exact ih3 _ _ _ _ _ _ _ _ _
      | exact pollardref18_Pairs.mono _ _ _
      | exact LeO.none _
      | refine LeO.ite ?_ ?_
      | refine LeO.bind ?_ (fun _ => ?_)
    · intro y0 y1 y2 y3 y4 y5 y6 y7 y8
      unfold pollardref18_Show.l2
      repeat' first
      | (with_reducible exact ih0 _ _ _ _ _ _ _)
      | (with_reducible exact ih1 _ _ _ _ _ _ _ _ _)
      | (with_reducible exact ih2 _ _ _ _ _ _ _ _ _)
      | (with_reducible exact ih3 _ _ _ _ _ _ _ _ _)
      | (with_reducible exact pollardref18_Pairs.mono _ _ _)
      | (with_reducible exact LeO.refl _)
      | (with_reducible exact LeO.none _)
      | (with_reducible refine LeO.ite ?_ ?_)
      | (with_reducible refine LeO.bind ?_ (fun _ => ?_))
      | exact ih0 _ _ _ _ _ _ _
      | exact ih1 _ _ _ _ _ _ _ _ _
      | exact ih2 _ _ _ _ _ _ _ _ _
      | exact ih3 _ _ _ _ _ _ _ _ _
      | exact pollardref18_Pairs.mono _ _ _
      | exact LeO.none _
      | refine LeO.ite ?_ ?_
      | refine LeO.bind ?_ (fun _ => ?_)
theorem pollardref18_Show.mono : ∀ a0 a1 k, LeO (pollardref18_Show.f k a0 a1) (pollardref18_Show.f (k + 1) a0 a1) := by
  intro a0 a1 k
  obtain ⟨ih0, ih1, ih2, ih3⟩ := pollardref18_Show.mono_l k
  unfold pollardref18_Show.f
  repeat' first
      | (with_reducible exact ih0 _ _ _ _ _ _ _)
      | (with_reducible exact ih1 _ _ _ _ _ _ _ _ _)
      | (with_reducible exact ih2 _ _ _ _ _ _ _ _ _)
      | (with_reducible exact ih3 _ _ _ _ _ _ _ _ _)
      | (with_reducible exact pollardref18_Pairs.mono _ _ _)
      | (with_reducible exact LeO.refl _)
      | (with_reducible exact LeO.none _)
      | (with_reducible refine LeO.ite ?_ ?_)
      | (with_reducible refine LeO.bind ?_ (fun _ => ?_))
      | exact ih0 _ _ _ _ _ _ _
      | exact ih1 _ _ _ _ _ _ _ _ _
      | exact ih2 _ _ _ _ _ _ _ _ _
      | exact ih3 _ _ _ _ _ _ _ _ _
      | exact pollardref18_Pairs.mono _ _ _
      | exact LeO.none _
      | refine LeO.ite ?_ ?_
      | refine LeO.bind ?_ (fun _ => ?_)
set_option maxHeartbeats 8000000 in
set_option maxRecDepth 100000 in
theorem pollardref18_Show.calls (k : Nat) (A0 : Option Addr) (c0 : Nat) (l0 : List ByteArray) (A1 : Option Addr) (c1 : Nat) (l1 : List ByteArray) (r : ByteArray) (w : World) (hr0 : Kd.C Kd.string w A0 l0.length l0) (hc0 : l0.length ≤ c0) (hr1 : Kd.C Kd.string w A1 l1.length l1) (hc1 : l1.length ≤ c1) (h : pollardref18_Show.f k l0 l1 = some r) :
    Calls Tryd.prog 17 #[.slice A0 l0.length c0, .slice A1 l1.length c1] w fun e w' => e = .returned (.string r) ∧ Below w.heap.size w w' := by
  have hu34 := Tryd.underlying34
  have HR0 := Aside0.mk hr0
  have HC0 := Aside0.mk hc0
  clear hr0 hc0
  have HR1 := Aside0.mk hr1
  have HC1 := Aside0.mk hc1
  clear hr1 hc1
  have HB := Aside0.mk (Below.refl w.heap.size w)
  have H : ((pollardref18_Pairs.f k l0 l1).bind fun t178 => (pollardref18_Show.l0 k l0 l1 t178 (⟨#[]⟩ : ByteArray) 0 0 0)) = some r := h
  clear h
  replace H := Option.bind_eq_some_iff.mp H
  obtain ⟨t178, A30, H⟩ := H
  replace H : (pollardref18_Show.l0 k l0 l1 t178 (⟨#[]⟩ : ByteArray) 0 0 0) = some r := H
  have A3 := Aside0.mk A30
  clear A30
  have H' := Aside0.mk H
  clear H
  go_enter Tryd.func17, Tryd.ntmps17
  go_wp2_with (first | ((with_reducible refine gate_callee (f := 13) rfl ?_); refine goesL_ (some 13) rfl rfl Tryd.func13 (by kernel_rfl) rfl #[.slice A0 l0.length c0, .slice A1 l1.length c1] rfl (by (try simp only [List.map_toArray, List.map_cons, List.map_nil]); first | done | rfl | (simp only [List.length_drop, List.length_take]; rfl)) ?_; (with_reducible refine (pollardref18_Pairs.calls k _ _ l0 _ _ l1 t178 _ ?side1 ?side2 ?side3 ?side4 A3.out).mono ?_); (case side1 => repeat (first | exact HR0.out | (with_reducible refine Kd.C_alloc ?_ _) | (with_reducible refine Kd.C_drewN ?_ _) | (with_reducible refine Kd.C_drew ?_))); (case side2 => exact HC0.out); (case side3 => repeat (first | exact HR1.out | (with_reducible refine Kd.C_alloc ?_ _) | (with_reducible refine Kd.C_drewN ?_ _) | (with_reducible refine Kd.C_drew ?_))); (case side4 => exact HC1.out); rintro e w4 ⟨v179, rfl, ho0, hb⟩; refine ⟨_, rfl, ?_⟩; have n0_ := Aside0.mk (Kd.R_lower ho0 (below_size (by repeat (first | (with_reducible first | exact HB.out | apply below_alloc | apply pw_below_drewN | apply below_drew1) | exact HB.out)))); have n1_ := Aside0.mk (below_step (by repeat (first | (with_reducible first | exact HB.out | apply below_alloc | apply pw_below_drewN | apply below_drew1) | exact HB.out)) hb); clear HB; have HO180 := n0_; have HB := n1_; clear n0_ n1_; (try clear hb); (try clear hb2); (try clear hk); (try clear hi); (try clear ho0)))
  go_loopg [6, 7, 8, 9] k (fun kq v6 v7 v8 v9 w' => ∃ (x6_1 : ByteArray) (x7_1 : Int) (x8_1 : Int) (x9_1 : Int), v6 = .string x6_1 ∧ v7 = .int .i64 x7_1 ∧ v8 = .int .i64 x8_1 ∧ v9 = .int .i64 x9_1 ∧ Aside0 (pollardref18_Show.l0 kq l0 l1 t178 x6_1 x7_1 x8_1 x9_1 = some r) ∧ Aside0 (kq ≤ k) ∧ Aside0 (Kd.R k34 34 w' w.heap.size (fun _ => True) v179 t178) ∧ Aside0 (Below w.heap.size w w'))
  case atStart => exact ⟨((⟨#[]⟩ : ByteArray)), (0), (0), (0), (by first | rfl | (simp; done) | (simp [*]; done)), (by first | rfl | (simp; done) | (simp [*]; done)), (by first | rfl | (simp; done) | (simp [*]; done)), (by first | rfl | (simp; done) | (simp [*]; done)), H', ⟨Nat.le_refl _⟩, ⟨by (with_reducible repeat (first | apply Kd.R_alloc | apply Kd.R_drewN | apply Kd.R_drew)); exact HO180.out⟩, ⟨by repeat (first | (with_reducible first | exact HB.out | apply below_alloc | apply pw_below_drewN | apply below_drew1) | exact HB.out)⟩⟩
  case round =>
    clear H'
    try clear c1
    try clear p2
    obtain ⟨x6_1, x7_1, x8_1, x9_1, rfl, rfl, rfl, rfl, HA, HK1, HO_5, HB⟩ := hrel
    cases gk with
    | zero => exact absurd HA.out (by simp [pollardref18_Show.l0])
    | succ k1 =>
      have H := HA.out
      clear HA
      simp only [pollardref18_Show.l0] at H
      by_cases c5 : x9_1 ≤ (t178.length : Int)
      · rw [if_pos c5] at H
        have c5b0 : decide (x9_1 ≤ (t178.length : Int)) = true := decide_eq_true c5
        clear c5
        have HC6 := Aside0.mk H
        clear H
        obtain ⟨Ao7, co7, eo7⟩ := Kd.R_slice HO_5.out
        subst eo7
        go_upto_if 28 with (first | ((with_reducible refine gate_dst (N := 10) rfl ?_); refine box_event ?hg (N := 10) ?hd (cs := #[.int .i64 0, .int .i64 0]) (t := 34) ?hr ?_; (case hd => rfl); (case hg => rfl); (case hr => first | (go_simp; done) | (go_simp; rfl) | (go_simp; simp only [show ∀ x_ : Int, IntKind.u8.wrap x_ = x_ % 256 from fun _ => rfl, Int.add_emod_emod, Int.emod_add_emod, Int.emod_emod]; done)); intro gb181 hg w8 hbox hb; have n0_ := Aside0.mk (Kd.R_below (Kd.R_elderB (by (with_reducible repeat (first | apply Kd.R_alloc | apply Kd.R_drewN | apply Kd.R_drew)); exact HO_5.out) gb181 (Nat.le_of_eq hg.symm)) hb); have n1_ := Aside0.mk (below_step (by repeat (first | (with_reducible first | exact HB.out | apply below_alloc | apply pw_below_drewN | apply below_drew1) | exact HB.out)) hb); have n2_ := Aside0.mk (hbox); have n3_ := Aside0.mk ((by rw [hg]; exact (below_size (by repeat (first | (with_reducible first | exact HB.out | apply below_alloc | apply pw_below_drewN | apply below_drew1) | exact HB.out))) : w.heap.size ≤ gb181)); have n4_ := Aside0.mk ((by rw [hg]; exact (below_size (by repeat (first | (with_reducible first | exact HB.out | apply below_alloc | apply pw_below_drewN | apply below_drew1) | exact HB.out))) : w.heap.size ≤ gb181)); clear HO_5; clear HB; have HO_5 := n0_; have HB := n1_; have BK181 := n2_; have GW181 := n3_; have GE181 := n4_; clear n0_ n1_ n2_ n3_ n4_; clear hb hbox hg; have hcz9_0 : w8.cell? ⟨gb181, 0, none⟩ = some (.int .i64 0) := (blk_cell BK181.out 0).trans rfl; have hcz9_1 : w8.cell? ⟨gb181, 1, none⟩ = some (.int .i64 0) := (blk_cell BK181.out 1).trans rfl; have hfz9_0 := blk_frozen BK181.out 0; have hfz9_1 := blk_frozen BK181.out 1))
        (try simp only [Act.put, List.setIfInBounds_toArray, List.set_cons_zero, List.set_cons_succ])
        go_cut [] (fun wc => ∃ (kq : Nat) (x182000_5 : Int) (x182001_5 : Int), Aside0 (pollardref18_Show.j1 kq l0 l1 t178 x6_1 x7_1 x8_1 x9_1 x182000_5 x182001_5 = some r) ∧ Aside0 (kq ≤ k1) ∧ Aside0 (Kd.R k34 34 wc w.heap.size (fun k_ => k_ ≠ gb181) (.slice Ao7 t178.length co7) t178) ∧ Aside0 (wc.heap[gb181]? = some (.cells #[.int .i64 x182000_5, .int .i64 x182001_5] 34 (0, 0))) ∧ Aside0 (Below w.heap.size w wc))
        case first =>
          have H := HC6.out
          clear HC6
          by_cases c10 : x9_1 < (t178.length : Int)
          · rw [if_pos c10] at H
            have c10b0 : decide (x9_1 < (t178.length : Int)) = true := decide_eq_true c10
            clear c10
            (first | rw [c10b0] | (simp only [i64_w, i32_w]; rw [c10b0]) | skip)
            by_cases c11 : 0 ≤ x9_1
            · rw [if_pos c11] at H
              have c11b0 : decide (0 ≤ x9_1) = true := decide_eq_true c11
              clear c11
              have H' := Aside0.mk H
              clear H
              have p182 : 0 ≤ (x9_1 : Int) := of_decide_eq_true (by first | (with_reducible assumption) | assumption)
              have q182 : x9_1 < (t178.length : Int) := of_decide_eq_true (by first | (with_reducible assumption) | assumption)
              obtain ⟨ad182, e182, hx182_0, hx182_1⟩ := at_T34 (Kd.R_reads' HO_5.out).2.2 x9_1 p182 q182
              cases e182
              have hn182_0 : ad182.block ≠ gb181 := Kd.own_blk (Kd.R_away HO_5.out (fun _ hk => hk.2))
              have hn182_1 : ad182.block ≠ gb181 := Kd.own_blk (Kd.R_away HO_5.out (fun _ hk => hk.2))
              replace hx182_0 := (cell_far (p := ⟨gb181, 0, none⟩) (by first | (rw [add_block]; exact hn182_0) | (show (Addr.add _ _).block ≠ _; rw [add_block]; exact hn182_0) | exact hn182_0) (.int .i64 (l0.length : Int))).trans hx182_0
              replace hx182_1 := (cell_far (p := ⟨gb181, 0, none⟩) (by first | (rw [add_block]; exact hn182_0) | (show (Addr.add _ _).block ≠ _; rw [add_block]; exact hn182_0) | exact hn182_0) (.int .i64 (l0.length : Int))).trans hx182_1
              replace hx182_0 := (cell_far (p := ⟨gb181, 1, none⟩) (by first | (rw [add_block]; exact hn182_1) | (show (Addr.add _ _).block ≠ _; rw [add_block]; exact hn182_1) | exact hn182_1) (.int .i64 (l1.length : Int))).trans hx182_0
              replace hx182_1 := (cell_far (p := ⟨gb181, 1, none⟩) (by first | (rw [add_block]; exact hn182_1) | (show (Addr.add _ _).block ≠ _; rw [add_block]; exact hn182_1) | exact hn182_1) (.int .i64 (l1.length : Int))).trans hx182_1
              clear hn182_0
              clear hn182_1
              replace p182 := eq_true p182
              replace q182 := eq_true q182
              have hcz12_0 : w8.cell? ⟨gb181, 0, none⟩ = some (.int .i64 0) := (blk_cell BK181.out 0).trans rfl
              have hcz12_1 : w8.cell? ⟨gb181, 1, none⟩ = some (.int .i64 0) := (blk_cell BK181.out 1).trans rfl
              have hfz12_0 := blk_frozen BK181.out 0
              have hfz12_1 := blk_frozen BK181.out 1
              go_wp2
              go_meet
              case rel => exact ⟨_, ((rd_T34 t178 x9_1).f0), ((rd_T34 t178 x9_1).f1), H', ⟨by have := HK1.out; first | omega | exact Nat.le_refl _⟩, ⟨by (with_reducible repeat (first | apply Kd.R_alloc | apply Kd.R_drewN | apply Kd.R_drew)); exact Kd.R_mono (Kd.R_far (p := ⟨gb181, 1, none⟩) (Kd.R_far (p := ⟨gb181, 0, none⟩) (Kd.R_far (p := ⟨gb181, 1, none⟩) (Kd.R_far (p := ⟨gb181, 0, none⟩) (Kd.R_mono HO_5.out (fun k_ hk => (⟨hk, hk.2⟩ : _ ∧ k_ ≠ gb181))) (fun _ hk => hk.2) (.int .i64 (l0.length : Int))) (fun _ hk => hk.2) (.int .i64 (l1.length : Int))) (fun _ hk => hk.2) (.int .i64 ((rd_T34 t178 x9_1).f0))) (fun _ hk => hk.2) (.int .i64 ((rd_T34 t178 x9_1).f1))) (fun _ hk => hk.1.2)⟩, ⟨by (with_reducible repeat (first | refine blk_drewN ?_ _ | refine blk_drew ?_ | refine blk_alloc ?_ _)); refine blk_put (cs := #[.int .i64 ((rd_T34 t178 x9_1).f0), .int .i64 (l1.length : Int)]) ?_ 1 _ rfl; (with_reducible repeat (first | refine blk_drewN ?_ _ | refine blk_drew ?_ | refine blk_alloc ?_ _)); refine blk_put (cs := #[.int .i64 (l0.length : Int), .int .i64 (l1.length : Int)]) ?_ 0 _ rfl; (with_reducible repeat (first | refine blk_drewN ?_ _ | refine blk_drew ?_ | refine blk_alloc ?_ _)); refine blk_put (cs := #[.int .i64 (l0.length : Int), .int .i64 0]) ?_ 1 _ rfl; (with_reducible repeat (first | refine blk_drewN ?_ _ | refine blk_drew ?_ | refine blk_alloc ?_ _)); refine blk_put (cs := #[.int .i64 0, .int .i64 0]) ?_ 0 _ rfl; (with_reducible repeat (first | refine blk_drewN ?_ _ | refine blk_drew ?_ | refine blk_alloc ?_ _)); exact BK181.out⟩, ⟨by repeat (first | (with_reducible first | exact HB.out | apply below_alloc | apply pw_below_drewN | apply below_drew1 | refine below_set ?_ GE181.out) | exact HB.out)⟩⟩
            · rw [if_neg c11] at H
              exact absurd H (by simp)
          · rw [if_neg c10] at H
            have c10b0 : decide (x9_1 < (t178.length : Int)) = false := decide_eq_false c10
            clear c10
            (first | rw [c10b0] | (simp only [i64_w, i32_w]; rw [c10b0]) | skip)
            have H' := Aside0.mk H
            clear H
            go_wp2
            go_meet
            case rel => exact ⟨_, ((l0.length : Int)), ((l1.length : Int)), H', ⟨by have := HK1.out; first | omega | exact Nat.le_refl _⟩, ⟨by (with_reducible repeat (first | apply Kd.R_alloc | apply Kd.R_drewN | apply Kd.R_drew)); exact Kd.R_mono (Kd.R_far (p := ⟨gb181, 1, none⟩) (Kd.R_far (p := ⟨gb181, 0, none⟩) (Kd.R_mono HO_5.out (fun k_ hk => (⟨hk, hk.2⟩ : _ ∧ k_ ≠ gb181))) (fun _ hk => hk.2) (.int .i64 (l0.length : Int))) (fun _ hk => hk.2) (.int .i64 (l1.length : Int))) (fun _ hk => hk.1.2)⟩, ⟨by (with_reducible repeat (first | refine blk_drewN ?_ _ | refine blk_drew ?_ | refine blk_alloc ?_ _)); refine blk_put (cs := #[.int .i64 (l0.length : Int), .int .i64 0]) ?_ 1 _ rfl; (with_reducible repeat (first | refine blk_drewN ?_ _ | refine blk_drew ?_ | refine blk_alloc ?_ _)); refine blk_put (cs := #[.int .i64 0, .int .i64 0]) ?_ 0 _ rfl; (with_reducible repeat (first | refine blk_drewN ?_ _ | refine blk_drew ?_ | refine blk_alloc ?_ _)); exact BK181.out⟩, ⟨by repeat (first | (with_reducible first | exact HB.out | apply below_alloc | apply pw_below_drewN | apply below_drew1 | refine below_set ?_ GE181.out) | exact HB.out)⟩⟩
        case rest =>
          clear HC6
          try clear c1
          try clear p1
          try clear q1
          try clear hx1
          try clear p2
          try clear c5
          try clear c5b0
          try clear c10
          try clear c10b0
          try clear c11
          try clear c11b0
          try clear hcz12_0
          try clear hcz12_1
          try clear hcz9_0
          try clear hcz9_1
          try clear hfz12_0
          try clear hfz12_1
          try clear hfz9_0
          try clear hfz9_1
          try clear hx182_0
          try clear hx182_1
          try clear p182
          try clear p2
          try clear q182
          obtain ⟨kq, x182000_5, x182001_5, HA, HJ5, HO_5, BK181, HB⟩ := hcut
          cases kq with
          | zero => exact absurd HA.out (by simp [pollardref18_Show.j1])
          | succ kj5 =>
            have H := HA.out
            clear HA
            simp only [pollardref18_Show.j1] at H
            have H' := Aside0.mk H
            clear H
            go_wp2
            go_loopg [6, 7] kj5 (fun kq v6 v7 w' => ∃ (x6_3 : ByteArray) (x7_3 : Int), v6 = .string x6_3 ∧ v7 = .int .i64 x7_3 ∧ Aside0 (pollardref18_Show.l1 kq l0 l1 t178 x6_3 x7_3 x8_1 x9_1 x182000_5 x182001_5 = some r) ∧ Aside0 (kq ≤ kj5) ∧ Aside0 (Kd.R k34 34 w' w.heap.size (fun k_ => k_ ≠ gb181) (.slice Ao7 t178.length co7) t178) ∧ Aside0 (w'.heap[gb181]? = some (.cells #[.int .i64 x182000_5, .int .i64 x182001_5] 34 (0, 0))) ∧ Aside0 (Below w.heap.size w w'))
            case atStart => exact ⟨(x6_1), (x7_1), (by first | rfl | (simp; done) | (simp [*]; done)), (by first | rfl | (simp; done) | (simp [*]; done)), H', ⟨Nat.le_refl _⟩, ⟨by (with_reducible repeat (first | apply Kd.R_alloc | apply Kd.R_drewN | apply Kd.R_drew)); exact HO_5.out⟩, ⟨by (with_reducible repeat (first | refine blk_drewN ?_ _ | refine blk_drew ?_ | refine blk_alloc ?_ _)); exact BK181.out⟩, ⟨by repeat (first | (with_reducible first | exact HB.out | apply below_alloc | apply pw_below_drewN | apply below_drew1 | refine below_set ?_ GE181.out) | exact HB.out)⟩⟩
            case round =>
              clear H'
              try clear c1
              try clear p1
              try clear q1
              try clear hx1
              try clear p2
              try clear c5
              try clear c5b0
              try clear c10
              try clear c10b0
              try clear c11
              try clear c11b0
              try clear hcz12_0
              try clear hcz12_1
              try clear hcz9_0
              try clear hcz9_1
              try clear hfz12_0
              try clear hfz12_1
              try clear hfz9_0
              try clear hfz9_1
              try clear hx182_0
              try clear hx182_1
              try clear p1
              try clear p182
              try clear p2
              try clear q1
              try clear q182
              obtain ⟨x6_3, x7_3, rfl, rfl, HA, HK3, HO_5, BK181, HB⟩ := hrel
              cases gk with
              | zero => exact absurd HA.out (by simp [pollardref18_Show.l1])
              | succ k3 =>
                have H := HA.out
                clear HA
                simp only [pollardref18_Show.l1] at H
                by_cases c13 : x7_3 < x182000_5
                · rw [if_pos c13] at H
                  have c13b0 : decide (x7_3 < x182000_5) = true := decide_eq_true c13
                  clear c13
                  by_cases c14 : 0 ≤ x7_3
                  · rw [if_pos c14] at H
                    have c14b0 : decide (0 ≤ x7_3) = true := decide_eq_true c14
                    clear c14
                    by_cases c15 : x7_3 < (l0.length : Int)
                    · rw [if_pos c15] at H
                      have c15b0 : decide (x7_3 < (l0.length : Int)) = true := decide_eq_true c15
                      clear c15
                      replace H := Option.bind_eq_some_iff.mp H
                      obtain ⟨t184, A160, H⟩ := H
                      replace H : (if 1 + t184.size ≤ 9223372036854775807 then (if (1 + t184.size) + 1 ≤ 9223372036854775807 then (if x6_3.size + ((1 + t184.size) + 1) ≤ 9223372036854775807 then (pollardref18_Show.l1 k3 l0 l1 t178 (x6_3 ++ (((⟨#[45]⟩ : ByteArray) ++ t184) ++ (⟨#[10]⟩ : ByteArray))) (wrap64 (x7_3 + 1)) x8_1 x9_1 x182000_5 x182001_5) else (none)) else (none)) else (none)) = some r := H
                      have A16 := Aside0.mk A160
                      clear A160
                      by_cases c17 : 1 + t184.size ≤ 9223372036854775807
                      · rw [if_pos c17] at H
                        have c17b0 := eq_true c17
                        have c17b1 : decide (1 + t184.size ≤ 9223372036854775807) = true := decide_eq_true c17
                        try have c17b2 : (9223372036854775807 < 1 + t184.size) = False := eq_false (Nat.not_lt.2 c17)
                        by_cases c18 : (1 + t184.size) + 1 ≤ 9223372036854775807
                        · rw [if_pos c18] at H
                          have c18b0 := eq_true c18
                          have c18b1 : decide ((1 + t184.size) + 1 ≤ 9223372036854775807) = true := decide_eq_true c18
                          try have c18b2 : (9223372036854775807 < (1 + t184.size) + 1) = False := eq_false (Nat.not_lt.2 c18)
                          by_cases c19 : x6_3.size + ((1 + t184.size) + 1) ≤ 9223372036854775807
                          · rw [if_pos c19] at H
                            have c19b0 := eq_true c19
                            have c19b1 : decide (x6_3.size + ((1 + t184.size) + 1) ≤ 9223372036854775807) = true := decide_eq_true c19
                            try have c19b2 : (9223372036854775807 < x6_3.size + ((1 + t184.size) + 1)) = False := eq_false (Nat.not_lt.2 c19)
                            have H' := Aside0.mk H
                            clear H
                            have hcz20_0 : wr.cell? ⟨gb181, 0, none⟩ = some (.int .i64 x182000_5) := (blk_cell BK181.out 0).trans rfl
                            have hcz20_1 : wr.cell? ⟨gb181, 1, none⟩ = some (.int .i64 x182001_5) := (blk_cell BK181.out 1).trans rfl
                            have hfz20_0 := blk_frozen BK181.out 0
                            have hfz20_1 := blk_frozen BK181.out 1
                            have p183 : 0 ≤ (x7_3 : Int) := of_decide_eq_true (by first | (with_reducible assumption) | assumption)
                            have q183 : x7_3 < (l0.length : Int) := of_decide_eq_true (by first | (with_reducible assumption) | assumption)
                            obtain ⟨ad183, e183, hx183_0⟩ := Kd.at_string HR0.out x7_3 p183 q183
                            cases e183
                            replace hx183_0 := (HB.out.cell (World.block_lt_of_cell? w _ hx183_0)).trans hx183_0
                            replace p183 := eq_true p183
                            replace q183 := eq_true q183
                            go_wp2_with (first | ((with_reducible refine gate_callee (f := 23) rfl ?_); refine goesL_ (some 44) rfl rfl Tryd.func23 (by kernel_rfl) rfl #[.string (rdOf ByteArray.empty l0 x7_3)] rfl (by (try simp only [List.map_toArray, List.map_cons, List.map_nil]); first | done | rfl | (simp only [List.length_drop, List.length_take]; rfl)) ?_; (with_reducible refine (pollardref18_bare.calls (rdOf ByteArray.empty l0 x7_3) t184 _ A16.out).mono ?_); rintro e w' ⟨rfl, ⟨nd, rfl⟩⟩; refine ⟨_, rfl, ?_⟩))
                            go_roundg k3
                            case measure => have := HK1.out; have := HJ5.out; have := HK3.out; omega
                            case rel => exact ⟨(x6_3 ++ (((⟨#[45]⟩ : ByteArray) ++ t184) ++ (⟨#[10]⟩ : ByteArray))), (wrap64 (x7_3 + 1)), (by first | rfl | (simp; done) | (simp [*]; done)), (by first | rfl | (simp; done) | (simp [*]; done)), H', ⟨by have := HK1.out; have := HJ5.out; have := HK3.out; omega⟩, ⟨by (with_reducible repeat (first | apply Kd.R_alloc | apply Kd.R_drewN | apply Kd.R_drew)); exact HO_5.out⟩, ⟨by (with_reducible repeat (first | refine blk_drewN ?_ _ | refine blk_drew ?_ | refine blk_alloc ?_ _)); exact BK181.out⟩, ⟨by repeat (first | (with_reducible first | exact HB.out | apply below_alloc | apply pw_below_drewN | apply below_drew1 | refine below_set ?_ GE181.out) | exact HB.out)⟩⟩
                          · rw [if_neg c19] at H
                            exact absurd H (by simp)
                        · rw [if_neg c18] at H
                          exact absurd H (by simp)
                      · rw [if_neg c17] at H
                        exact absurd H (by simp)
                    · rw [if_neg c15] at H
                      exact absurd H (by simp)
                  · rw [if_neg c14] at H
                    exact absurd H (by simp)
                · rw [if_neg c13] at H
                  have c13b0 : decide (x7_3 < x182000_5) = false := decide_eq_false c13
                  clear c13
                  have H' := Aside0.mk H
                  clear H
                  have hcz21_0 : wr.cell? ⟨gb181, 0, none⟩ = some (.int .i64 x182000_5) := (blk_cell BK181.out 0).trans rfl
                  have hcz21_1 : wr.cell? ⟨gb181, 1, none⟩ = some (.int .i64 x182001_5) := (blk_cell BK181.out 1).trans rfl
                  have hfz21_0 := blk_frozen BK181.out 0
                  have hfz21_1 := blk_frozen BK181.out 1
                  go_wp2
                  go_loopg [6, 8] k3 (fun kq v6 v8 w' => ∃ (x6_4 : ByteArray) (x8_4 : Int), v6 = .string x6_4 ∧ v8 = .int .i64 x8_4 ∧ Aside0 (pollardref18_Show.l2 kq l0 l1 t178 x6_4 x7_3 x8_4 x9_1 x182000_5 x182001_5 = some r) ∧ Aside0 (kq ≤ k3) ∧ Aside0 (Kd.R k34 34 w' w.heap.size (fun k_ => k_ ≠ gb181) (.slice Ao7 t178.length co7) t178) ∧ Aside0 (w'.heap[gb181]? = some (.cells #[.int .i64 x182000_5, .int .i64 x182001_5] 34 (0, 0))) ∧ Aside0 (Below w.heap.size w w'))
                  case atStart => exact ⟨(x6_3), (x8_1), (by first | rfl | (simp; done) | (simp [*]; done)), (by first | rfl | (simp; done) | (simp [*]; done)), H', ⟨Nat.le_refl _⟩, ⟨by (with_reducible repeat (first | apply Kd.R_alloc | apply Kd.R_drewN | apply Kd.R_drew)); exact HO_5.out⟩, ⟨by (with_reducible repeat (first | refine blk_drewN ?_ _ | refine blk_drew ?_ | refine blk_alloc ?_ _)); exact BK181.out⟩, ⟨by repeat (first | (with_reducible first | exact HB.out | apply below_alloc | apply pw_below_drewN | apply below_drew1 | refine below_set ?_ GE181.out) | exact HB.out)⟩⟩
                  case round =>
                    clear H'
                    try clear c1
                    try clear p1
                    try clear q1
                    try clear hx1
                    try clear c2
                    try clear p2
                    try clear c5
                    try clear c5b0
                    try clear p6
                    try clear c10
                    try clear c10b0
                    try clear c11
                    try clear c11b0
                    try clear c13
                    try clear c13b0
                    try clear c14
                    try clear c14b0
                    try clear c15
                    try clear c15b0
                    try clear c17
                    try clear c17b0
                    try clear c17b1
                    try clear c17b2
                    try clear c18
                    try clear c18b0
                    try clear c18b1
                    try clear c18b2
                    try clear p18
                    try clear q18
                    try clear hx18
                    try clear c19
                    try clear c19b0
                    try clear c19b1
                    try clear c19b2
                    try clear hcz12_0
                    try clear hcz12_1
                    try clear hcz20_0
                    try clear hcz20_1
                    try clear hcz21_0
                    try clear hcz21_1
                    try clear hcz9_0
                    try clear hcz9_1
                    try clear hfz12_0
                    try clear hfz12_1
                    try clear hfz20_0
                    try clear hfz20_1
                    try clear hfz21_0
                    try clear hfz21_1
                    try clear hfz9_0
                    try clear hfz9_1
                    try clear hx182_0
                    try clear hx182_1
                    try clear hx183_0
                    try clear p1
                    try clear p182
                    try clear p183
                    try clear p2
                    try clear q1
                    try clear q182
                    try clear q183
                    obtain ⟨x6_4, x8_4, rfl, rfl, HA, HK4, HO_5, BK181, HB⟩ := hrel
                    cases gk with
                    | zero => exact absurd HA.out (by simp [pollardref18_Show.l2])
                    | succ k4 =>
                      have H := HA.out
                      clear HA
                      simp only [pollardref18_Show.l2] at H
                      by_cases c22 : x8_4 < x182001_5
                      · rw [if_pos c22] at H
                        have c22b0 : decide (x8_4 < x182001_5) = true := decide_eq_true c22
                        clear c22
                        by_cases c23 : 0 ≤ x8_4
                        · rw [if_pos c23] at H
                          have c23b0 : decide (0 ≤ x8_4) = true := decide_eq_true c23
                          clear c23
                          by_cases c24 : x8_4 < (l1.length : Int)
                          · rw [if_pos c24] at H
                            have c24b0 : decide (x8_4 < (l1.length : Int)) = true := decide_eq_true c24
                            clear c24
                            replace H := Option.bind_eq_some_iff.mp H
                            obtain ⟨t186, A250, H⟩ := H
                            replace H : (if 1 + t186.size ≤ 9223372036854775807 then (if (1 + t186.size) + 1 ≤ 9223372036854775807 then (if x6_4.size + ((1 + t186.size) + 1) ≤ 9223372036854775807 then (pollardref18_Show.l2 k4 l0 l1 t178 (x6_4 ++ (((⟨#[43]⟩ : ByteArray) ++ t186) ++ (⟨#[10]⟩ : ByteArray))) x7_3 (wrap64 (x8_4 + 1)) x9_1 x182000_5 x182001_5) else (none)) else (none)) else (none)) = some r := H
                            have A25 := Aside0.mk A250
                            clear A250
                            by_cases c26 : 1 + t186.size ≤ 9223372036854775807
                            · rw [if_pos c26] at H
                              have c26b0 := eq_true c26
                              have c26b1 : decide (1 + t186.size ≤ 9223372036854775807) = true := decide_eq_true c26
                              try have c26b2 : (9223372036854775807 < 1 + t186.size) = False := eq_false (Nat.not_lt.2 c26)
                              by_cases c27 : (1 + t186.size) + 1 ≤ 9223372036854775807
                              · rw [if_pos c27] at H
                                have c27b0 := eq_true c27
                                have c27b1 : decide ((1 + t186.size) + 1 ≤ 9223372036854775807) = true := decide_eq_true c27
                                try have c27b2 : (9223372036854775807 < (1 + t186.size) + 1) = False := eq_false (Nat.not_lt.2 c27)
                                by_cases c28 : x6_4.size + ((1 + t186.size) + 1) ≤ 9223372036854775807
                                · rw [if_pos c28] at H
                                  have c28b0 := eq_true c28
                                  have c28b1 : decide (x6_4.size + ((1 + t186.size) + 1) ≤ 9223372036854775807) = true := decide_eq_true c28
                                  try have c28b2 : (9223372036854775807 < x6_4.size + ((1 + t186.size) + 1)) = False := eq_false (Nat.not_lt.2 c28)
                                  have H' := Aside0.mk H
                                  clear H
                                  have hcz29_0 : wr.cell? ⟨gb181, 0, none⟩ = some (.int .i64 x182000_5) := (blk_cell BK181.out 0).trans rfl
                                  have hcz29_1 : wr.cell? ⟨gb181, 1, none⟩ = some (.int .i64 x182001_5) := (blk_cell BK181.out 1).trans rfl
                                  have hfz29_0 := blk_frozen BK181.out 0
                                  have hfz29_1 := blk_frozen BK181.out 1
                                  have p185 : 0 ≤ (x8_4 : Int) := of_decide_eq_true (by first | (with_reducible assumption) | assumption)
                                  have q185 : x8_4 < (l1.length : Int) := of_decide_eq_true (by first | (with_reducible assumption) | assumption)
                                  obtain ⟨ad185, e185, hx185_0⟩ := Kd.at_string HR1.out x8_4 p185 q185
                                  cases e185
                                  replace hx185_0 := (HB.out.cell (World.block_lt_of_cell? w _ hx185_0)).trans hx185_0
                                  replace p185 := eq_true p185
                                  replace q185 := eq_true q185
                                  go_wp2_with (first | ((with_reducible refine gate_callee (f := 23) rfl ?_); refine goesL_ (some 59) rfl rfl Tryd.func23 (by kernel_rfl) rfl #[.string (rdOf ByteArray.empty l1 x8_4)] rfl (by (try simp only [List.map_toArray, List.map_cons, List.map_nil]); first | done | rfl | (simp only [List.length_drop, List.length_take]; rfl)) ?_; (with_reducible refine (pollardref18_bare.calls (rdOf ByteArray.empty l1 x8_4) t186 _ A25.out).mono ?_); rintro e w' ⟨rfl, ⟨nd, rfl⟩⟩; refine ⟨_, rfl, ?_⟩))
                                  go_roundg k4
                                  case measure => have := HK1.out; have := HJ5.out; have := HK3.out; have := HK4.out; omega
                                  case rel => exact ⟨(x6_4 ++ (((⟨#[43]⟩ : ByteArray) ++ t186) ++ (⟨#[10]⟩ : ByteArray))), (wrap64 (x8_4 + 1)), (by first | rfl | (simp; done) | (simp [*]; done)), (by first | rfl | (simp; done) | (simp [*]; done)), H', ⟨by have := HK1.out; have := HJ5.out; have := HK3.out; have := HK4.out; omega⟩, ⟨by (with_reducible repeat (first | apply Kd.R_alloc | apply Kd.R_drewN | apply Kd.R_drew)); exact HO_5.out⟩, ⟨by (with_reducible repeat (first | refine blk_drewN ?_ _ | refine blk_drew ?_ | refine blk_alloc ?_ _)); exact BK181.out⟩, ⟨by repeat (first | (with_reducible first | exact HB.out | apply below_alloc | apply pw_below_drewN | apply below_drew1 | refine below_set ?_ GE181.out) | exact HB.out)⟩⟩
                                · rw [if_neg c28] at H
                                  exact absurd H (by simp)
                              · rw [if_neg c27] at H
                                exact absurd H (by simp)
                            · rw [if_neg c26] at H
                              exact absurd H (by simp)
                          · rw [if_neg c24] at H
                            exact absurd H (by simp)
                        · rw [if_neg c23] at H
                          exact absurd H (by simp)
                      · rw [if_neg c22] at H
                        have c22b0 : decide (x8_4 < x182001_5) = false := decide_eq_false c22
                        clear c22
                        by_cases c30 : x9_1 < (t178.length : Int)
                        · rw [if_pos c30] at H
                          have c30b0 : decide (x9_1 < (t178.length : Int)) = true := decide_eq_true c30
                          clear c30
                          by_cases c31 : 0 ≤ x7_3
                          · rw [if_pos c31] at H
                            have c31b0 : decide (0 ≤ x7_3) = true := decide_eq_true c31
                            clear c31
                            by_cases c32 : x7_3 < (l0.length : Int)
                            · rw [if_pos c32] at H
                              have c32b0 : decide (x7_3 < (l0.length : Int)) = true := decide_eq_true c32
                              clear c32
                              replace H := Option.bind_eq_some_iff.mp H
                              obtain ⟨t188, A330, H⟩ := H
                              replace H : (if 1 + t188.size ≤ 9223372036854775807 then (if (1 + t188.size) + 1 ≤ 9223372036854775807 then (if x6_4.size + ((1 + t188.size) + 1) ≤ 9223372036854775807 then (pollardref18_Show.l0 k4 l0 l1 t178 (x6_4 ++ (((⟨#[32]⟩ : ByteArray) ++ t188) ++ (⟨#[10]⟩ : ByteArray))) (wrap64 (x7_3 + 1)) (wrap64 (x8_4 + 1)) (wrap64 (x9_1 + 1))) else (none)) else (none)) else (none)) = some r := H
                              have A33 := Aside0.mk A330
                              clear A330
                              by_cases c34 : 1 + t188.size ≤ 9223372036854775807
                              · rw [if_pos c34] at H
                                have c34b0 := eq_true c34
                                have c34b1 : decide (1 + t188.size ≤ 9223372036854775807) = true := decide_eq_true c34
                                try have c34b2 : (9223372036854775807 < 1 + t188.size) = False := eq_false (Nat.not_lt.2 c34)
                                by_cases c35 : (1 + t188.size) + 1 ≤ 9223372036854775807
                                · rw [if_pos c35] at H
                                  have c35b0 := eq_true c35
                                  have c35b1 : decide ((1 + t188.size) + 1 ≤ 9223372036854775807) = true := decide_eq_true c35
                                  try have c35b2 : (9223372036854775807 < (1 + t188.size) + 1) = False := eq_false (Nat.not_lt.2 c35)
                                  by_cases c36 : x6_4.size + ((1 + t188.size) + 1) ≤ 9223372036854775807
                                  · rw [if_pos c36] at H
                                    have c36b0 := eq_true c36
                                    have c36b1 : decide (x6_4.size + ((1 + t188.size) + 1) ≤ 9223372036854775807) = true := decide_eq_true c36
                                    try have c36b2 : (9223372036854775807 < x6_4.size + ((1 + t188.size) + 1)) = False := eq_false (Nat.not_lt.2 c36)
                                    have H' := Aside0.mk H
                                    clear H
                                    have hcz37_0 : wr.cell? ⟨gb181, 0, none⟩ = some (.int .i64 x182000_5) := (blk_cell BK181.out 0).trans rfl
                                    have hcz37_1 : wr.cell? ⟨gb181, 1, none⟩ = some (.int .i64 x182001_5) := (blk_cell BK181.out 1).trans rfl
                                    have hfz37_0 := blk_frozen BK181.out 0
                                    have hfz37_1 := blk_frozen BK181.out 1
                                    have p187 : 0 ≤ (x7_3 : Int) := of_decide_eq_true (by first | (with_reducible assumption) | assumption)
                                    have q187 : x7_3 < (l0.length : Int) := of_decide_eq_true (by first | (with_reducible assumption) | assumption)
                                    obtain ⟨ad187, e187, hx187_0⟩ := Kd.at_string HR0.out x7_3 p187 q187
                                    cases e187
                                    replace hx187_0 := (HB.out.cell (World.block_lt_of_cell? w _ hx187_0)).trans hx187_0
                                    replace p187 := eq_true p187
                                    replace q187 := eq_true q187
                                    go_wp2_with (first | ((with_reducible refine gate_callee (f := 23) rfl ?_); refine goesL_ (some 72) rfl rfl Tryd.func23 (by kernel_rfl) rfl #[.string (rdOf ByteArray.empty l0 x7_3)] rfl (by (try simp only [List.map_toArray, List.map_cons, List.map_nil]); first | done | rfl | (simp only [List.length_drop, List.length_take]; rfl)) ?_; (with_reducible refine (pollardref18_bare.calls (rdOf ByteArray.empty l0 x7_3) t188 _ A33.out).mono ?_); rintro e w' ⟨rfl, ⟨nd, rfl⟩⟩; refine ⟨_, rfl, ?_⟩))
                                    go_roundg k4
                                    case measure => have := HK1.out; have := HJ5.out; have := HK3.out; have := HK4.out; omega
                                    case rel => exact ⟨(x6_4 ++ (((⟨#[32]⟩ : ByteArray) ++ t188) ++ (⟨#[10]⟩ : ByteArray))), (wrap64 (x7_3 + 1)), (wrap64 (x8_4 + 1)), (wrap64 (x9_1 + 1)), (by first | rfl | (simp; done) | (simp [*]; done)), (by first | rfl | (simp; done) | (simp [*]; done)), (by first | rfl | (simp; done) | (simp [*]; done)), (by first | rfl | (simp; done) | (simp [*]; done)), H', ⟨by have := HK1.out; have := HJ5.out; have := HK3.out; have := HK4.out; omega⟩, ⟨by (with_reducible repeat (first | apply Kd.R_alloc | apply Kd.R_drewN | apply Kd.R_drew)); exact Kd.R_mono HO_5.out (fun _ hk => trivial)⟩, ⟨by repeat (first | (with_reducible first | exact HB.out | apply below_alloc | apply pw_below_drewN | apply below_drew1 | refine below_set ?_ GE181.out) | exact HB.out)⟩⟩
                                  · rw [if_neg c36] at H
                                    exact absurd H (by simp)
                                · rw [if_neg c35] at H
                                  exact absurd H (by simp)
                              · rw [if_neg c34] at H
                                exact absurd H (by simp)
                            · rw [if_neg c32] at H
                              exact absurd H (by simp)
                          · rw [if_neg c31] at H
                            exact absurd H (by simp)
                        · rw [if_neg c30] at H
                          have c30b0 : decide (x9_1 < (t178.length : Int)) = false := decide_eq_false c30
                          clear c30
                          have H' := Aside0.mk H
                          clear H
                          have hcz38_0 : wr.cell? ⟨gb181, 0, none⟩ = some (.int .i64 x182000_5) := (blk_cell BK181.out 0).trans rfl
                          have hcz38_1 : wr.cell? ⟨gb181, 1, none⟩ = some (.int .i64 x182001_5) := (blk_cell BK181.out 1).trans rfl
                          have hfz38_0 := blk_frozen BK181.out 0
                          have hfz38_1 := blk_frozen BK181.out 1
                          go_wp2
                          go_roundg k4
                          case measure => have := HK1.out; have := HJ5.out; have := HK3.out; have := HK4.out; omega
                          case rel => exact ⟨(x6_4), (wrap64 (x7_3 + 1)), (wrap64 (x8_4 + 1)), (wrap64 (x9_1 + 1)), (by first | rfl | (simp; done) | (simp [*]; done)), (by first | rfl | (simp; done) | (simp [*]; done)), (by first | rfl | (simp; done) | (simp [*]; done)), (by first | rfl | (simp; done) | (simp [*]; done)), H', ⟨by have := HK1.out; have := HJ5.out; have := HK3.out; have := HK4.out; omega⟩, ⟨by (with_reducible repeat (first | apply Kd.R_alloc | apply Kd.R_drewN | apply Kd.R_drew)); exact Kd.R_mono HO_5.out (fun _ hk => trivial)⟩, ⟨by repeat (first | (with_reducible first | exact HB.out | apply below_alloc | apply pw_below_drewN | apply below_drew1 | refine below_set ?_ GE181.out) | exact HB.out)⟩⟩
      · rw [if_neg c5] at H
        have c5b0 : decide (x9_1 ≤ (t178.length : Int)) = false := decide_eq_false c5
        clear c5
        obtain rfl := Option.some.inj H
        obtain ⟨Ao39, co39, eo39⟩ := Kd.R_slice HO_5.out
        subst eo39
        go_wp2
        go_ret
        exact ⟨by first | rfl | (simp [errW_none, errW_some] <;> rfl) | (simp [*, errW_none, errW_some] <;> rfl), by repeat (first | (with_reducible first | exact HB.out | apply below_alloc | apply pw_below_drewN | apply below_drew1) | exact HB.out)⟩

end Go.Proofs.YtflogdjehghkpaaDoor.M
