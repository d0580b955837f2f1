/- ObjectUnlike, walked by hand: whatever the two bodies and the two numbers, it returns true. Conditions: the numbers are such as an int may be. -/
import Derived.Test.YtnapcfpecpgdbaaMx3
import Derived.Test.YtnapcfpecpgdbaaMx7
import Derived.Test.YtnapcfpecpgdbaaMx8
import Derived.Test.YtnapcfpecpgdbaaMx9
import Derived.Test.YtnapcfpecpgdbaaPl07c
import Derived.Test.YtnapcfpecpgdbaaPlBits
import Derived.Outline
import Derived.WalkSpells
import Derived.Deep.QuietTactic
import Derived.BigQuiet
import Derived.Great.Walk
namespace Go.Proofs.Ytnapcfpecpgdbaa.Pl
set_option linter.unusedVariables false
set_option linter.unusedSimpArgs false
open Go.RowKit Go.Proofs.Ytnapcfpecpgdbaa.M Go.Proofs.YtnapcfpecpgdbaaW.PrintWords Go.Proofs.YtnapcfpecpgdbaaW.PrintLast

theorem raw_like (m n : Int) (hm : 1 ≤ m ∧ m ≤ 4) (hn : 1 ≤ n ∧ n ≤ 4) (a b : ByteArray) (ha : a.size ≤ 262144) (hb : b.size ≤ 262144) : raw m a = raw n b ↔ m = n ∧ a = b := by
  constructor
  · intro h
    have h1 := open_raw m hm a (by omega)
    have h2 := open_raw n hn b (by omega)
    rw [if_neg (by omega)] at h1 h2
    rw [h, h2] at h1
    simp only [Prod.mk.injEq] at h1
    exact ⟨h1.1.symm, h1.2.1.symm⟩
  · rintro ⟨rfl, rfl⟩
    rfl
theorem raw_small (m : Int) (hm : 1 ≤ m ∧ m ≤ 4) (a : ByteArray) (ha : a.size ≤ 262144) : (raw m a).size ≤ 70368744177664 := by
  unfold raw
  rw [mk_size]
  have h1 := (kword_mem m hm).2.2
  have h2 := decL_short a.size (by omega)
  simp only [List.length_append, List.length_cons, toList_length]
  omega
set_option maxHeartbeats 4000000 in
set_option maxRecDepth 100000 in
theorem unlike_calls (a b : ByteArray) (i j : Int) (w : World) :
    Calls Try.prog 5 #[.string a, .string b, .agg #[.int .i64 i, .int .i64 j]] w fun e w' => e = .returned (.bool true) ∧ Below w.heap.size w w' := by
  have hi : Go.bits .and .i64 i 3 = i % 4 := and_low 2 (by omega) i
  have hj : Go.bits .and .i64 j 3 = j % 4 := and_low 2 (by omega) j
  have hu := Try.underlying33
  have HB := Aside0.mk (Below.refl w.heap.size w)
  go_enter Try.func5, Try.ntmps5
  go_upto_region 1 with (fail)
  have hg1 : (w.alloc (.cells #[.int .i64 i, .int .i64 j] 33)).heap[w.heap.size]? = some (.cells #[.int .i64 i, .int .i64 j] 33 (0, 0)) := heap_alloc_new w _
  have hb1 : Below w.heap.size w (w.alloc (.cells #[.int .i64 i, .int .i64 j] 33)) := below_alloc (Below.refl _ _) _
  clear HB
  have HB := Aside0.mk hb1
  clear hb1
  generalize w.alloc (.cells #[.int .i64 i, .int .i64 j] 33) = W1 at *
  generalize hgs : w.heap.size = g at *
  have x0 : W1.drew.cell? ⟨g, 0, none⟩ = some (.int .i64 i) := Lib.cell_of_heap (w := W1) hg1 0
  have x1 : W1.drew.cell? ⟨g, 1, none⟩ = some (.int .i64 j) := Lib.cell_of_heap (w := W1) hg1 1
  clear hg1
  obtain ⟨k, hk⟩ : ∃ k, IntKind.i64.wrap (1 + i % 4) = k := ⟨_, rfl⟩
  obtain ⟨l, hl⟩ : ∃ l, IntKind.i64.wrap (1 + j % 4) = l := ⟨_, rfl⟩
  go_cut [7, 8] (fun v7 v8 wc => v7 = .int .i64 k ∧ v8 = .int .i64 l ∧ Aside0 (Below g w wc))
  case first J1 K1 hJ1 hK1 =>
    go_region_law (fail)
    all_goals (refine hK1 _ _ ?_; go_meet; (case rel => exact ⟨rfl, rfl, ⟨pw_below_drewN HB.out 1⟩⟩))
  case rest =>
    obtain ⟨rfl, rfl, HB2⟩ := hcut
    clear HB x0 x1 hi hj hu
    have hkr : 1 ≤ k ∧ k ≤ 4 := by rw [← hk, IntWalk.i64_in _ (by omega)]; omega
    have hlr : 1 ≤ l ∧ l ≤ 4 := by rw [← hl, IntWalk.i64_in _ (by omega)]; omega
    have za := few_size a
    have zb := few_size b
    have hlike := raw_like k l hkr hlr (fewV a) (fewV b) (by omega) (by omega)
    obtain ⟨K1, hr1⟩ := (raw_prog k hkr (fewV a) (by omega)).rounds
    obtain ⟨K2, hr2⟩ := (raw_prog l hlr (fewV b) (by omega)).rounds
    obtain ⟨K3, hw⟩ := awake.rounds
    have hf1 := few_eq a
    have hf2 := few_eq b
    have hs1 := id_of _ (raw_small k hkr (fewV a) (by omega))
    have hs2 := id_of _ (raw_small l hlr (fewV b) (by omega))
    have ht : sum_Twin.f (raw k (fewV a)) (raw l (fewV b)) = some (if (raw k (fewV a)).toList = (raw l (fewV b)).toList then false else ((sum_hash (raw k (fewV a))).toList == (sum_hash (raw l (fewV b))).toList)) := by
      unfold sum_Twin.f
      rw [sum_of _ (raw_small k hkr (fewV a) (by omega)), sum_of _ (raw_small l hlr (fewV b) (by omega))]
      split <;> rfl
    have hst : (raw k (fewV a)).toList = (raw l (fewV b)).toList ↔ k = l ∧ (fewV a).toList = (fewV b).toList := by
      constructor
      · intro h
        have := hlike.mp (ba_ext h)
        exact ⟨this.1, by rw [this.2]⟩
      · rintro ⟨h1, h2⟩
        rw [hlike.mpr ⟨h1, ba_ext h2⟩]
    have R1 := Aside0.mk hr1
    have R2 := Aside0.mk hr2
    have RW := Aside0.mk hw
    have F1 := Aside0.mk hf1
    have F2 := Aside0.mk hf2
    have I1 := Aside0.mk hs1
    have I2 := Aside0.mk hs2
    have TW := Aside0.mk ht
    have ST := Aside0.mk hst
    have GS := Aside0.mk hgs
    clear hr1 hr2 hw hf1 hf2 hs1 hs2 ht hst hlike za zb hk hl hgs hkr hlr
    generalize raw k (fewV a) = s at *
    generalize raw l (fewV b) = t at *
    generalize fewV a = fa at *
    generalize fewV b = fb at *
    generalize sum_hash s = hS at *
    generalize sum_hash t = hT at *
    have HBg : Aside0 (Below g w wc) := HB2
    clear HB2
    have HG : Aside0 (g ≤ wc.heap.size) := ⟨by have := HBg.out.size; rw [GS.out] at this; exact this⟩
    go_upto_region 3 with (first | (go_at_call 9; go_must (refine (pollardlaw07_few.calls a fa _ F1.out).mono ?_; rintro e w2 ⟨rfl, ⟨nd, rfl⟩⟩)) | (go_at_call 8; go_must (refine (object_Raw.calls K1 k fa s 0 _ R1.out).mono ?_; rintro e w3 ⟨rfl, hb3⟩; have B3 := Aside0.mk hb3; clear hb3)))
    go_upto_region 4 with (first | (go_at_call 9; go_must (refine (pollardlaw07_few.calls b fb _ F2.out).mono ?_; rintro e w2 ⟨rfl, ⟨nd2, rfl⟩⟩)) | (go_at_call 8; go_must (refine (object_Raw.calls K2 l fb t 0 _ R2.out).mono ?_; rintro e w4 ⟨rfl, hb4⟩; have B4 := Aside0.mk hb4; clear hb4)))
    go_upto_region 6 with (go_at_call 10; go_must (refine (pollardlaw07_awake.calls K3 true _ RW.out).mono ?_; rintro e w5 ⟨rfl, hb5⟩; have B5 := Aside0.mk hb5; clear hb5))
    have B6 : Aside0 (Below w.heap.size w w5) := ⟨by
      have e1 := HBg.out
      rw [← GS.out] at e1
      exact below_step (below_step (below_step e1 (by have := B3.out; exact ⟨this.os, this.tape, this.output, this.size, this.block⟩)) (by have := B4.out; exact ⟨this.os, this.tape, this.output, this.size, this.block⟩)) B5.out⟩
    clear HBg HG B3 B4 B5 R1 R2 RW
    by_cases hkl : k = l
    · have e1 : (k == l) = true := beq_iff_eq.mpr hkl
      by_cases hab : fa.toList = fb.toList
      · have e2 : (fa.toList == fb.toList) = true := beq_iff_eq.mpr hab
        have e3 : (s.toList == t.toList) = true := beq_iff_eq.mpr (ST.out.mpr ⟨hkl, hab⟩)
        go_upto_region 7 with (first | (go_at_call 9; refine (pollardlaw07_few.calls a fa _ F1.out).mono ?_; rintro e w6 ⟨rfl, ⟨nd3, rfl⟩⟩) | (go_at_call 9; refine (pollardlaw07_few.calls b fb _ F2.out).mono ?_; rintro e w6 ⟨rfl, ⟨nd4, rfl⟩⟩))
        have B7 : Aside0 (Below w.heap.size w (w5.drewN (nd3 + nd4))) := ⟨by have e1 := B6.out; exact ⟨e1.os, e1.tape, e1.output, e1.size, e1.block⟩⟩
        clear B6 F1 F2
        generalize w5.drewN (nd3 + nd4) = w6 at *
        have hh : hS = hT := Option.some.inj ((I1.out.symm.trans (by rw [ba_ext (ST.out.mpr ⟨hkl, hab⟩)])).trans I2.out)
        have e4 : (hS.toList == hT.toList) = true := by rw [hh]; exact beq_self_eq_true _
        go_wp2_with (first | (go_at_call 13; refine (object_ID.calls s hS _ I1.out).mono ?_; rintro e w7 ⟨rfl, hb7⟩; have B8 := Aside0.mk (below_step B7.out hb7); clear hb7) | (go_at_call 13; refine (object_ID.calls t hT _ I2.out).mono ?_; rintro e w8 ⟨rfl, hb8⟩; have B9 := Aside0.mk (below_step B8.out hb8); clear hb8))
        go_ret
        exact ⟨rfl, B9.out⟩
      · have e2 : (fa.toList == fb.toList) = false := beq_eq_false_iff_ne.mpr hab
        have hne : ¬ s.toList = t.toList := fun h => hab (ST.out.mp h).2
        have e3 : (s.toList == t.toList) = false := beq_eq_false_iff_ne.mpr hne
        go_upto_region 7 with (first | (go_at_call 9; refine (pollardlaw07_few.calls a fa _ F1.out).mono ?_; rintro e w6 ⟨rfl, ⟨nd3, rfl⟩⟩) | (go_at_call 9; refine (pollardlaw07_few.calls b fb _ F2.out).mono ?_; rintro e w6 ⟨rfl, ⟨nd4, rfl⟩⟩))
        have B7 : Aside0 (Below w.heap.size w (w5.drewN (nd3 + nd4))) := ⟨by have e1 := B6.out; exact ⟨e1.os, e1.tape, e1.output, e1.size, e1.block⟩⟩
        clear B6 F1 F2
        generalize w5.drewN (nd3 + nd4) = w6 at *
        by_cases hh : hS.toList = hT.toList
        · have e4 : (hS.toList == hT.toList) = true := beq_iff_eq.mpr hh
          have tw := TW.out
          rw [if_neg hne, e4] at tw
          have TW := Aside0.mk tw
          clear tw
          go_wp2_with (first | (go_at_call 13; refine (object_ID.calls s hS _ I1.out).mono ?_; rintro e w7 ⟨rfl, hb7⟩; have B8 := Aside0.mk (below_step B7.out hb7); clear hb7) | (go_at_call 13; refine (object_ID.calls t hT _ I2.out).mono ?_; rintro e w8 ⟨rfl, hb8⟩; have B9 := Aside0.mk (below_step B8.out hb8); clear hb8) | (go_at_call 15; refine (sum_Twin.calls s t true _ TW.out).mono ?_; rintro e w9 ⟨rfl, hb9⟩; have B10 := Aside0.mk (below_step B9.out hb9); clear hb9))
          go_ret
          exact ⟨rfl, B10.out⟩
        · have e4 : (hS.toList == hT.toList) = false := beq_eq_false_iff_ne.mpr hh
          go_wp2_with (first | (go_at_call 13; refine (object_ID.calls s hS _ I1.out).mono ?_; rintro e w7 ⟨rfl, hb7⟩; have B8 := Aside0.mk (below_step B7.out hb7); clear hb7) | (go_at_call 13; refine (object_ID.calls t hT _ I2.out).mono ?_; rintro e w8 ⟨rfl, hb8⟩; have B9 := Aside0.mk (below_step B8.out hb8); clear hb8))
          go_ret
          exact ⟨rfl, B9.out⟩
    · have e1 : (k == l) = false := beq_eq_false_iff_ne.mpr hkl
      have hne : ¬ s.toList = t.toList := fun h => hkl (ST.out.mp h).1
      have e3 : (s.toList == t.toList) = false := beq_eq_false_iff_ne.mpr hne
      go_upto_region 7 with (fail)
      have B7 : Aside0 (Below w.heap.size w (w5)) := ⟨by have e1 := B6.out; exact ⟨e1.os, e1.tape, e1.output, e1.size, e1.block⟩⟩
      clear B6 F1 F2
      generalize w5 = w6 at *
      by_cases hh : hS.toList = hT.toList
      · have e4 : (hS.toList == hT.toList) = true := beq_iff_eq.mpr hh
        have tw := TW.out
        rw [if_neg hne, e4] at tw
        have TW := Aside0.mk tw
        clear tw
        go_wp2_with (first | (go_at_call 13; refine (object_ID.calls s hS _ I1.out).mono ?_; rintro e w7 ⟨rfl, hb7⟩; have B8 := Aside0.mk (below_step B7.out hb7); clear hb7) | (go_at_call 13; refine (object_ID.calls t hT _ I2.out).mono ?_; rintro e w8 ⟨rfl, hb8⟩; have B9 := Aside0.mk (below_step B8.out hb8); clear hb8) | (go_at_call 15; refine (sum_Twin.calls s t true _ TW.out).mono ?_; rintro e w9 ⟨rfl, hb9⟩; have B10 := Aside0.mk (below_step B9.out hb9); clear hb9))
        go_ret
        exact ⟨rfl, B10.out⟩
      · have e4 : (hS.toList == hT.toList) = false := beq_eq_false_iff_ne.mpr hh
        go_wp2_with (first | (go_at_call 13; refine (object_ID.calls s hS _ I1.out).mono ?_; rintro e w7 ⟨rfl, hb7⟩; have B8 := Aside0.mk (below_step B7.out hb7); clear hb7) | (go_at_call 13; refine (object_ID.calls t hT _ I2.out).mono ?_; rintro e w8 ⟨rfl, hb8⟩; have B9 := Aside0.mk (below_step B8.out hb8); clear hb8))
        go_ret
        exact ⟨rfl, B9.out⟩
end Go.Proofs.Ytnapcfpecpgdbaa.Pl
