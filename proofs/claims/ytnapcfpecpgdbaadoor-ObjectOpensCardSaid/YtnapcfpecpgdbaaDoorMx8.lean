/- The program's functions as plain functions, and that each call comes to what these tell; written by a program of this session, some contracts by hand. Conditions: none. -/
import Derived.Test.YtnapcfpecpgdbaaDoorMx0
import Derived.Test.YtnapcfpecpgdbaaDoorMx2
import Derived.Test.YtnapcfpecpgdbaaDoorMx7
namespace Go.Proofs.YtnapcfpecpgdbaaDoor.M
open Go.RowKit Go.Proofs.YtnapcfpecpgdbaaDoorW.PrintWords Go.Proofs.YtnapcfpecpgdbaaDoorW.PrintLast Go.Proofs.YtnapcfpecpgdbaaDoorW.PrintMore
attribute [local go_sem] max2_int min2_int max_two min_two max_three min_three max_four min_four   -- for this text's walks alone
set_option linter.unusedVariables false
set_option linter.unusedSimpArgs false

/-! ### ob_CheckCommit: function 15 (given by hand) -/
/-- Is one of them no id? -/
def ob_CheckCommit.odd (l : List ByteArray) : Bool := l.any fun s => decide (s.size ≠ 32)
/-- Does one stand twice? -/
def ob_CheckCommit.dup (k : Nat) (l : List ByteArray) : Nat → Nat → Option Int
 | 0, _ => some 0
 | n + 1, i => (sCo.f k (l.take i) (rdOf ByteArray.empty l i)).bind fun b => if b = true then some 6 else ob_CheckCommit.dup k l n (i + 1)
def ob_CheckCommit.f (k : Nat) (a0_0 : ByteArray) (l0_1 : List ByteArray) (a0_2 : ByteArray) (a0_3 : Int) (a0_4 : ByteArray) : Option Int :=
 if l0_1.length ≤ 1000000 then (if l0_1.length > 4 then some 3 else if ob_CheckCommit.odd (a0_0 :: l0_1) = true then some 6 else (ob_author.f a0_2).bind fun a => if a = true then ((ob_text.f a0_4).bind fun t => if t = true then ob_CheckCommit.dup k l0_1 l0_1.length 0 else some 6) else some 6) else none
theorem ob_CheckCommit.dup_mono (k : Nat) (l : List ByteArray) : ∀ n i, LeO (ob_CheckCommit.dup k l n i) (ob_CheckCommit.dup (k + 1) l n i)
 | 0, _ => LeO.refl _
 | n + 1, i => by
  unfold ob_CheckCommit.dup
  exact LeO.bind (sCo.mono _ _ _) (fun _ => LeO.ite (LeO.refl _) (ob_CheckCommit.dup_mono k l n (i + 1)))
theorem ob_CheckCommit.mono : ∀ a0 a1 a2 a3 a4 k, LeO (ob_CheckCommit.f k a0 a1 a2 a3 a4) (ob_CheckCommit.f (k + 1) a0 a1 a2 a3 a4) := by
 intro a0 a1 a2 a3 a4 k
 unfold ob_CheckCommit.f
 refine LeO.ite (LeO.ite (LeO.refl _) (LeO.ite (LeO.refl _) (LeO.bind (LeO.refl _) (fun _ => LeO.ite (LeO.bind (LeO.refl _) (fun _ => LeO.ite (ob_CheckCommit.dup_mono _ _ _ _) (LeO.refl _))) (LeO.refl _))))) (LeO.none _)
set_option maxHeartbeats 4000000 in
set_option maxRecDepth 100000 in
theorem ob_CheckCommit.lit (s : ByteArray) (w : World) :
 Calls Tryd.prog 36 #[.string s] w fun e w' => e = .returned (.bool (decide (s.size ≠ 32))) ∧ w' = w := by
 by_cases h : s.size = 32
 · have hb : ((s.size : Int) != 32) = false := by rw [h]; rfl
   go_enter Tryd.func36, Tryd.ntmps36
   go_wp2
   go_ret
   exact ⟨by simp [h], rfl⟩
 · have hb : ((s.size : Int) != 32) = true := by rw [bne_iff_ne]; omega
   go_enter Tryd.func36, Tryd.ntmps36
   go_wp2
   go_ret
   exact ⟨by simp [h], rfl⟩
set_option maxHeartbeats 4000000 in
set_option maxRecDepth 100000 in
theorem ob_CheckCommit.index (A : Option Addr) (c : Nat) (l : List ByteArray) (w : World) (hr : Kd.C Kd.string w A l.length l) (hl : l.length ≤ 2000000) :
 Calls Tryd.prog 58 #[.slice A l.length c, .func (.func 36) #[] #[]] w fun e w' => ∃ i : Int, e = .returned (.int .i64 i) ∧ (0 ≤ i ↔ ob_CheckCommit.odd l = true) ∧ w' = w := by
 have HR := Aside0.mk hr
 clear hr
 go_enter Tryd.func58, Tryd.ntmps58
 go_wp2
 go_loop [8] (fun u8 => ∃ j : Nat, u8 = .int .i64 j ∧ j ≤ l.length ∧ Aside0 (ob_CheckCommit.odd (l.take j) = false)) (fun u8 => l.length - (intOf u8).toNat)
 case atStart => exact ⟨0, rfl, by omega, ⟨rfl⟩⟩
 case round =>
  obtain ⟨j, rfl, hj, HO⟩ := hrel
  by_cases hlt : j < l.length
  ·
   have hltI : (j : Int) < (l.length : Int) := by omega
   have p0 : (0 : Int) ≤ (j : Int) := by omega
   obtain ⟨ad, e1, hx⟩ := Kd.at_string HR.out (j : Int) p0 hltI
   cases e1
   rw [Int.toNat_natCast] at hx
   have htk : l.take (j + 1) = l.take j ++ [rdOf ByteArray.empty l (j : Int)] := by
    rw [← List.take_append_getElem hlt]
    congr 2
    unfold rdOf
    rw [Int.toNat_natCast, List.getD_eq_getElem?_getD, List.getElem?_eq_getElem hlt]
    rfl
   have hin : rdOf ByteArray.empty l (j : Int) ∈ l := by
    unfold rdOf
    rw [Int.toNat_natCast, List.getD_eq_getElem?_getD, List.getElem?_eq_getElem hlt]
    exact List.getElem_mem hlt
   have HT := Aside0.mk htk
   have HI := Aside0.mk hin
   clear htk hin
   generalize rdOf ByteArray.empty l (j : Int) = s at *
   by_cases hs : s.size = 32
   · have hd : decide (s.size ≠ 32) = false := by simp [hs]
     go_wp2_with (go_at_call 36; go_must (refine (ob_CheckCommit.lit s _).mono ?_; rintro e w2 ⟨rfl, hw⟩; rw [hd]; (have hw := hw.symm); subst hw))
     go_round
     case rel =>
      refine ⟨j + 1, rfl, by omega, ⟨?_⟩⟩
      rw [HT.out, ob_CheckCommit.odd, List.any_append]
      have := HO.out
      rw [ob_CheckCommit.odd] at this
      rw [this]
      simp [hs]
     case measure =>
      simp [intOf]
      omega
   · have hd : decide (s.size ≠ 32) = true := by simp [hs]
     go_wp2_with (go_at_call 36; go_must (refine (ob_CheckCommit.lit s _).mono ?_; rintro e w2 ⟨rfl, hw⟩; rw [hd]; (have hw := hw.symm); subst hw))
     go_ret
     refine ⟨(j : Int), rfl, ⟨fun _ => ?_, fun _ => p0⟩, rfl⟩
     rw [ob_CheckCommit.odd, List.any_eq_true]
     exact ⟨s, HI.out, hd⟩
  · obtain rfl : j = l.length := by omega
    have ho := HO.out
    rw [List.take_of_length_le (Nat.le_refl _)] at ho
    go_wp2
    go_ret
    have hne : (0 : Int) ≤ -1 ↔ ob_CheckCommit.odd l = true := Iff.intro (fun h => absurd h (by decide)) (fun h => by rw [ho] at h; cases h)
    first | exact ⟨-1, rfl, hne, rfl⟩ | exact ⟨-1, rfl, by decide, rfl⟩
set_option maxHeartbeats 4000000 in
set_option maxRecDepth 100000 in
theorem ob_CheckCommit.contains (A : Option Addr) (c : Nat) (l : List ByteArray) (w : World) (hr : Kd.C Kd.string w A l.length l) (hl : l.length ≤ 2000000) :
 Calls Tryd.prog 35 #[.slice A l.length c, .func (.func 36) #[] #[]] w fun e w' => e = .returned (.bool (ob_CheckCommit.odd l)) ∧ w' = w := by
 go_enter Tryd.func35, Tryd.ntmps35
 by_cases ho : ob_CheckCommit.odd l = true
 · go_wp2_with (go_at_call 58; go_must (refine (ob_CheckCommit.index A c l _ hr hl).mono ?_; rintro e w2 ⟨i, rfl, hi, hw⟩; (have hi2 := hi.mpr ho); (have hw := hw.symm); subst hw))
   go_ret
   exact ⟨by rw [ho]; rfl, rfl⟩
 · go_wp2_with (go_at_call 58; go_must (refine (ob_CheckCommit.index A c l _ hr hl).mono ?_; rintro e w2 ⟨i, rfl, hi, hw⟩; (have hi2 : ¬ 0 ≤ i := fun h => ho (hi.mp h)); (have hw := hw.symm); subst hw))
   go_ret
   exact ⟨by rw [Bool.not_eq_true] at ho; rw [ho]; rfl, rfl⟩
theorem ob_CheckCommit.info : (Tryd.prog.info? 9).map (fun i => (i.zero, i.size, i.bytes)) = some (some (.string ⟨#[]⟩), 1, 16) := by kernel_rfl
set_option maxHeartbeats 8000000 in
set_option maxRecDepth 100000 in
theorem ob_CheckCommit.calls (k : Nat) (a0_0 : ByteArray) (A0_1 : Option Addr) (c0_1 : Nat) (l0_1 : List ByteArray) (a0_2 : ByteArray) (a0_3 : Int) (a0_4 : ByteArray) (r : Int) (w : World) (hr0_1 : Kd.C Kd.string w A0_1 l0_1.length l0_1) (hc0_1 : l0_1.length ≤ c0_1) (h : ob_CheckCommit.f k a0_0 l0_1 a0_2 a0_3 a0_4 = some r) :
 Calls Tryd.prog 15 #[.agg #[.string a0_0, .slice A0_1 l0_1.length c0_1, .string a0_2, .int .u64 a0_3, .string a0_4]] w fun e w' => e = .returned (.int .i64 r) ∧ Below w.heap.size w w' := by
 have hu := Tryd.underlying25
 unfold ob_CheckCommit.f at h
 by_cases hl : l0_1.length ≤ 1000000
 ·
  rw [if_pos hl] at h
  have H := Aside0.mk h
  have HL := Aside0.mk hl
  have HR := Aside0.mk hr0_1
  have HC := Aside0.mk hc0_1
  clear h hl hr0_1 hc0_1
  go_enter Tryd.func15, Tryd.ntmps15
  go_upto_region 1 with (fail)
  have hg1 := heap_alloc_new w (.cells #[.string a0_0, .slice A0_1 l0_1.length c0_1, .string a0_2, .int .u64 a0_3, .string a0_4] 25)
  have hb1 := below_alloc (Below.refl w.heap.size w) (.cells #[.string a0_0, .slice A0_1 l0_1.length c0_1, .string a0_2, .int .u64 a0_3, .string a0_4] 25)
  have hz1 : (w.alloc (.cells #[.string a0_0, .slice A0_1 l0_1.length c0_1, .string a0_2, .int .u64 a0_3, .string a0_4] 25)).heap.size = w.heap.size + 1 := by simp
  generalize w.alloc (.cells #[.string a0_0, .slice A0_1 l0_1.length c0_1, .string a0_2, .int .u64 a0_3, .string a0_4] 25) = W1 at *
  have HR1 := Aside0.mk (Kd.C_below HR.out hb1)
  have HB1 := Aside0.mk hb1
  have HG1 := Aside0.mk hg1
  have HZ1 := Aside0.mk hz1
  have x0 : W1.cell? ⟨w.heap.size, 0, none⟩ = some (.string a0_0) := by rw [Lib.cell_of_heap hg1]; rfl
  have x1 : W1.cell? ⟨w.heap.size, 1, none⟩ = some (.slice A0_1 l0_1.length c0_1) := by rw [Lib.cell_of_heap hg1]; rfl
  clear hg1 hb1 hz1 HR
  generalize hg : w.heap.size = g at *
  go_upto_region 2 with (first | ((with_reducible refine gate_dst (N := 9) rfl ?_); go_must (refine Kd.R_lit Kd.string (w0 := W1) W1.heap.size 9 ?hg (N := 9) ?hd (xs := [a0_0]) (inner := [.string a0_0]) (ok := fun _ => True) (okp := fun _ => True) ?hr ?hp (fun _ hk => hk) trivial (Below.refl _ _) (Nat.le_refl _) (by simp) ?_; (case hd => rfl); (case hg => rfl); (case hr => first | (go_simp; done) | (go_simp; rfl)); (case hp => exact (Reps.one (show Kd.M Kd.string _ _ _ a0_0 [.string a0_0] from rfl) (Reps.none _ _))); intro v104 w2 ho3 hb hg_ hnew_; clear hg_ hnew_; have HO := Aside0.mk ho3; have HB2 := Aside0.mk hb; have z1 : w2.cell? ⟨g, 1, none⟩ = some (.slice A0_1 l0_1.length c0_1) := (by rw [Lib.cell_of_heap ((hb.block g (by rw [HZ1.out]; omega)).trans HG1.out)]; rfl); clear hb ho3)) | ((with_reducible refine gate_builtin (b := .append) (xs := #[.tmp 9, .tmp 11]) rfl ?_); go_must (at_builtin; refine Kd.R_append_rows Kd.string (w0 := W1) W1.heap.size rfl (.tmp 9) (.tmp 11) 22 9 (.string ⟨#[]⟩) 16 rfl Tryd.underlying22 ob_CheckCommit.info rfl (by decide) (by omega) v104 [a0_0] l0_1 _ _ _ (fun _ => True) (fun _ => False) rfl rfl ?aO ?aR (fun _ _ h => h) (fun _ h => h.elim) ?aF ?aB ?aS ?aL ?_; (case aR => exact Kd.C_below HR1.out HB2.out); (case aO => exact HO.out); (case aF => exact (fun _ _ => trivial)); (case aB => exact HB2.out); (case aS => exact HB2.out.size); (case aL => have := HL.out; simp; omega); intro v107 w3 ho hb hg_ hat; have HO3 := Aside0.mk ho; have HB3 := Aside0.mk hb; clear ho hb hg_ hat)))
  have hB3 : Below g w w3 := HB1.out.trans (HB3.out.mono (by have := HZ1.out; omega))
  have hg3 := (HB3.out.block g (by have := HZ1.out; omega)).trans HG1.out
  have HR3 := Aside0.mk (Kd.C_below HR1.out HB3.out)
  have ho3 : Kd.R Kd.string 9 w3 W1.heap.size (fun _ => True) v107 (a0_0 :: l0_1) := HO3.out
  obtain ⟨A5, c5, rfl⟩ := Kd.R_slice ho3
  have hC5 : Kd.C Kd.string w3 A5 (a0_0 :: l0_1).length (a0_0 :: l0_1) := (Kd.R_reads' ho3).2.2
  have IDS := Aside0.mk hC5
  have B3 := Aside0.mk hB3
  have G3 := Aside0.mk hg3
  have y1 : w3.cell? ⟨g, 1, none⟩ = some (.slice A0_1 l0_1.length c0_1) := by rw [Lib.cell_of_heap hg3]; rfl
  have y2 : w3.cell? ⟨g, 2, none⟩ = some (.string a0_2) := by rw [Lib.cell_of_heap hg3]; rfl
  have y4 : w3.cell? ⟨g, 4, none⟩ = some (.string a0_4) := by rw [Lib.cell_of_heap hg3]; rfl
  have hlt3 : g < w3.heap.size := (Array.getElem?_eq_some_iff.mp hg3).1
  clear hB3 hg3 ho3 hC5 HO3 HB3 HB1 HG1 HZ1 HR1 x0 x1 z1 HO HB2
  have hl2 := HL.out
  go_upto_region 3 with (go_at_call 35; go_must (refine (ob_CheckCommit.contains A5 c5 (a0_0 :: l0_1) _ IDS.out (by show l0_1.length + 1 ≤ _; omega)).mono ?_; rintro e w4 ⟨rfl, hw⟩; (have hw := hw.symm); subst hw))
  have h := H.out
  by_cases h4 : l0_1.length > 4
  · rw [if_pos h4] at h
    obtain rfl := Option.some.inj h
    have h4b : decide (4 < (l0_1.length : Int)) = true := decide_eq_true (by omega)
    go_wp2_with fail
    go_ret
    exact ⟨rfl, B3.out⟩
  ·
   rw [if_neg h4] at h
   have h4b : decide (4 < (l0_1.length : Int)) = false := decide_eq_false (by omega)
   by_cases ho : ob_CheckCommit.odd (a0_0 :: l0_1) = true
   · rw [if_pos ho] at h
     obtain rfl := Option.some.inj h
     rw [ho]
     go_wp2_with fail
     go_ret
     exact ⟨rfl, B3.out⟩
   ·
    rw [if_neg ho] at h
    rw [Bool.not_eq_true] at ho
    rw [ho]
    obtain ⟨a, ha, h⟩ := Option.bind_eq_some_iff.mp h
    have HA := Aside0.mk ha
    cases a with
    | false =>
     rw [if_neg (by decide)] at h
     obtain rfl := Option.some.inj h
     go_wp2_with (go_at_call 37; go_must (refine (ob_author.calls a0_2 false _ HA.out).mono ?_; rintro e w4 ⟨rfl, hb4⟩))
     go_ret
     exact ⟨rfl, by rw [hg]; exact B3.out.trans (hb4.mono (Nat.le_of_lt hlt3))⟩
    | true =>
     rw [if_pos rfl] at h
     obtain ⟨t, ht, h⟩ := Option.bind_eq_some_iff.mp h
     have HT := Aside0.mk ht
     go_upto_region 7 with (go_at_call 37; go_must (refine (ob_author.calls a0_2 true _ HA.out).mono ?_; rintro e w4 ⟨rfl, hb4⟩; have B4 := Aside0.mk (B3.out.trans (hb4.mono (Nat.le_of_lt hlt3))); have G4 := Aside0.mk ((hb4.block g hlt3).trans G3.out); have HR4 := Aside0.mk (Kd.C_below HR3.out hb4); have hlt4 : g < w4.heap.size := (Nat.lt_of_lt_of_le hlt3 hb4.size); have z1 : w4.cell? ⟨g, 1, none⟩ = some (.slice A0_1 l0_1.length c0_1) := (by rw [Lib.cell_of_heap G4.out]; rfl); have z4 : w4.cell? ⟨g, 4, none⟩ = some (.string a0_4) := (by rw [Lib.cell_of_heap G4.out]; rfl)))
     have CK := Aside0.mk h
     clear h H HA IDS HR3 G3 y1 y2 y4
     cases t with
     | false =>
      have h := CK.out
      rw [if_neg (by decide)] at h
      obtain rfl := Option.some.inj h
      go_wp2_with (go_at_call 38; go_must (refine (ob_text.calls a0_4 false _ HT.out).mono ?_; rintro e w5 ⟨rfl, hb5⟩))
      go_ret
      exact ⟨rfl, by rw [hg]; exact B4.out.trans (hb5.mono (Nat.le_of_lt hlt4))⟩
     | true =>
      have h := CK.out
      rw [if_pos rfl] at h
      have DU := Aside0.mk h
      clear h CK
      go_upto_region 9 with (go_at_call 38; go_must (refine (ob_text.calls a0_4 true _ HT.out).mono ?_; rintro e w5 ⟨rfl, hb5⟩; have B5 := Aside0.mk (B4.out.trans (hb5.mono (Nat.le_of_lt hlt4))); have hg5 := (hb5.block g hlt4).trans G4.out; have HR5 := Aside0.mk (Kd.C_below HR4.out hb5); have v1 : w5.cell? ⟨g, 1, none⟩ = some (.slice A0_1 l0_1.length c0_1) := (by rw [Lib.cell_of_heap hg5]; rfl); clear hg5))
      clear B4 G4 HR4 z1 z4 HT
      go_wp2_with fail
      go_loopw [33] (fun u33 wr => ∃ i : Nat, u33 = .int .i64 i ∧ i ≤ l0_1.length ∧ Drawn0 w5 wr ∧ Aside0 (ob_CheckCommit.dup k l0_1 (l0_1.length - i) i = some r)) (fun u33 _ => l0_1.length - (intOf u33).toNat)
      case atStart => exact ⟨0, rfl, by omega, Drawn0.refl _, DU⟩
      case round =>
       clear DU
       obtain ⟨i, rfl, hi, ⟨m1, rfl⟩, DU⟩ := hrel
       by_cases hlt : i < l0_1.length
       ·
        have hltI : (i : Int) < (l0_1.length : Int) := by omega
        have p0 : (0 : Int) ≤ (i : Int) := by omega
        obtain ⟨ad, e1, hx⟩ := Kd.at_string HR5.out (i : Int) p0 hltI
        rw [Int.toNat_natCast] at hx
        cases e1
        have hd := DU.out
        rw [show l0_1.length - i = (l0_1.length - (i + 1)) + 1 by omega, ob_CheckCommit.dup] at hd
        obtain ⟨b, hb, hd⟩ := Option.bind_eq_some_iff.mp hd
        have hC := Kd.C_take HR5.out (m := i) hi
        have htl : (l0_1.take i).length = i := by rw [List.length_take]; omega
        have CN := Aside0.mk hb
        have TK := Aside0.mk hC
        have TL := Aside0.mk htl
        have hic : i ≤ c0_1 := by have := HC.out; omega
        have hicI : (i : Int) ≤ (c0_1 : Int) := by omega
        clear hb hC htl
        cases b with
        | true =>
         rw [if_pos rfl] at hd
         obtain rfl := Option.some.inj hd
         go_wp2_with (go_at_call 39; go_must (have C_ := sCo.calls k (some ad) c0_1 (l0_1.take i) (rdOf ByteArray.empty l0_1 (i : Int)) true (w5.drewN m1) (Kd.C_drewN TK.out m1) (by rw [TL.out]; exact hic) CN.out; rw [TL.out] at C_; refine C_.mono ?_; clear C_; rintro e w6 ⟨rfl, ⟨nd, rfl⟩⟩))
         go_ret
         exact ⟨rfl, by first | exact pw_below_drewN B5.out _ | exact pw_below_drewN (pw_below_drewN B5.out _) _ | (rw [hg]; first | exact pw_below_drewN B5.out _ | exact pw_below_drewN (pw_below_drewN B5.out _) _)⟩
        | false =>
         rw [if_neg (by decide)] at hd
         have DN := Aside0.mk hd
         clear hd DU
         go_wp2_with (go_at_call 39; go_must (have C_ := sCo.calls k (some ad) c0_1 (l0_1.take i) (rdOf ByteArray.empty l0_1 (i : Int)) false (w5.drewN m1) (Kd.C_drewN TK.out m1) (by rw [TL.out]; exact hic) CN.out; rw [TL.out] at C_; refine C_.mono ?_; clear C_; rintro e w6 ⟨rfl, ⟨nd, rfl⟩⟩))
         go_roundw
         case rel => exact ⟨i + 1, rfl, by omega, ⟨_, rfl⟩, DN⟩
         case measure =>
          simp [intOf]
          omega
       · obtain rfl : i = l0_1.length := by omega
         have hd := DU.out
         rw [Nat.sub_self, ob_CheckCommit.dup] at hd
         obtain rfl := Option.some.inj hd
         go_wp2_with fail
         go_ret
         exact ⟨rfl, by first | exact pw_below_drewN B5.out m1 | (rw [hg]; exact pw_below_drewN B5.out m1)⟩
 · rw [if_neg hl] at h
   cases h


/-! ### sl_CutPrefix: function 50 -/
def sl_CutPrefix.f (a0 : ByteArray) (a1 : ByteArray) : Option (ByteArray × Bool) := (sl_HasPrefix.f a0 a1).bind fun t137 => (if t137 = true then (if 0 ≤ (a1.size : Int) then (if (a1.size : Int) ≤ (a0.size : Int) then (some (a0.extract ((a1.size : Int) : Int).toNat a0.size, true)) else (none)) else (none)) else (some (a0, false)))
set_option maxHeartbeats 8000000 in
set_option maxRecDepth 100000 in
theorem sl_CutPrefix.calls (a0 : ByteArray) (a1 : ByteArray) (r1 : ByteArray) (r2 : Bool) (w : World) (h : sl_CutPrefix.f a0 a1 = some (r1, r2)) :
 Calls Tryd.prog 50 #[.string a0, .string a1] w fun e w' => e = .returned (.tuple #[.string r1, .bool r2]) ∧ Drawn0 w w' := by
 have H : ((sl_HasPrefix.f a0 a1).bind fun t137 => (if t137 = true then (if 0 ≤ (a1.size : Int) then (if (a1.size : Int) ≤ (a0.size : Int) then (some (a0.extract ((a1.size : Int) : Int).toNat a0.size, true)) else (none)) else (none)) else (some (a0, false)))) = some (r1, r2) := h
 clear h
 replace H := Option.bind_eq_some_iff.mp H
 obtain ⟨t137, A30, H⟩ := H
 try dsimp only at H
 have A3 := Aside0.mk A30
 clear A30
 by_cases c4 : t137 = true
 ·
  subst c4
  have H1 := H
  rw [if_pos rfl] at H1
  clear H
  have H := H1
  clear H1
  by_cases c5 : 0 ≤ (a1.size : Int)
  ·
   rw [if_pos c5] at H
   have c5b0 := eq_true c5
   have c5b1 : decide (0 ≤ (a1.size : Int)) = true := decide_eq_true c5
   clear c5
   by_cases c6 : (a1.size : Int) ≤ (a0.size : Int)
   · rw [if_pos c6] at H
     have c6b0 := eq_true c6
     have c6b1 : decide ((a1.size : Int) ≤ (a0.size : Int)) = true := decide_eq_true c6
     clear c6
     simp only [Option.some.injEq, Prod.mk.injEq] at H
     obtain ⟨rfl, rfl⟩ := H
     go_enter Tryd.func50, Tryd.ntmps50
     go_wp2_with (first | ((with_reducible refine gate_callee (f := 71) rfl ?_); refine goesM_ (some 8) Tryd.func71 #[.string a0, .string a1] ?_; (with_reducible refine (sl_HasPrefix.calls a0 a1 true _ A3.out).mono ?_); rintro e w' ⟨rfl, ⟨nd, rfl⟩⟩; refine ⟨_, rfl, ?_⟩))
     go_ret2
     exact ⟨ez_, dz_⟩
   · rw [if_neg c6] at H
     exact absurd H (by simp)
  · rw [if_neg c5] at H
    exact absurd H (by simp)
 · replace c4 := Bool.eq_false_iff.mpr c4
   subst c4
   have H1 := H
   rw [if_neg (show ¬ (false = true) by decide)] at H1
   clear H
   have H := H1
   clear H1
   simp only [Option.some.injEq, Prod.mk.injEq] at H
   obtain ⟨rfl, rfl⟩ := H
   go_enter Tryd.func50, Tryd.ntmps50
   go_wp2_with (first | ((with_reducible refine gate_callee (f := 71) rfl ?_); refine goesM_ (some 8) Tryd.func71 #[.string a0, .string a1] ?_; (with_reducible refine (sl_HasPrefix.calls a0 a1 false _ A3.out).mono ?_); rintro e w' ⟨rfl, ⟨nd, rfl⟩⟩; refine ⟨_, rfl, ?_⟩))
   go_ret2
   exact ⟨ez_, dz_⟩

/-! ### strings_CutPrefix: function 22 -/
def strings_CutPrefix.f (a0 : ByteArray) (a1 : ByteArray) : Option (ByteArray × Bool) := (sl_CutPrefix.f a0 a1).bind fun bt138 => (some (bt138.1, bt138.2))
set_option maxHeartbeats 8000000 in
set_option maxRecDepth 100000 in
theorem strings_CutPrefix.calls (a0 : ByteArray) (a1 : ByteArray) (r1 : ByteArray) (r2 : Bool) (w : World) (h : strings_CutPrefix.f a0 a1 = some (r1, r2)) :
 Calls Tryd.prog 22 #[.string a0, .string a1] w fun e w' => e = .returned (.tuple #[.string r1, .bool r2]) ∧ Drawn0 w w' := by
 have H : ((sl_CutPrefix.f a0 a1).bind fun bt138 => (some (bt138.1, bt138.2))) = some (r1, r2) := h
 clear h
 replace H := Option.bind_eq_some_iff.mp H
 obtain ⟨⟨t138, t139⟩, A30, H⟩ := H
 try dsimp only at H
 have A3 := Aside0.mk A30
 clear A30
 simp only [Option.some.injEq, Prod.mk.injEq] at H
 obtain ⟨rfl, rfl⟩ := H
 go_enter Tryd.func22, Tryd.ntmps22
 go_wp2_with (first | ((with_reducible refine gate_callee (f := 50) rfl ?_); refine goesM_ (some 8) Tryd.func50 #[.string a0, .string a1] ?_; (with_reducible refine (sl_CutPrefix.calls a0 a1 t138 t139 _ A3.out).mono ?_); rintro e w' ⟨rfl, ⟨nd, rfl⟩⟩; refine ⟨_, rfl, ?_⟩))
 go_ret2
 exact ⟨ez_, dz_⟩

/-! ### ob_line: function 20 -/
def ob_line.f (a0 : ByteArray) (a1 : ByteArray) : Option (ByteArray × ByteArray × Bool) := (strings_Cut.f a0 (⟨#[10]⟩ : ByteArray)).bind fun bt140 => (if a1.size + 1 ≤ 9223372036854775807 then ((strings_CutPrefix.f bt140.1 (a1 ++ (⟨#[32]⟩ : ByteArray))).bind fun bt143 => (if bt140.2.2 = true then (some (bt143.1, bt140.2.1, bt143.2)) else (some (bt143.1, bt140.2.1, false)))) else (none))
set_option maxHeartbeats 8000000 in
set_option maxRecDepth 100000 in
theorem ob_line.calls (a0 : ByteArray) (a1 : ByteArray) (r1 : ByteArray) (r2 : ByteArray) (r3 : Bool) (w : World) (h : ob_line.f a0 a1 = some (r1, r2, r3)) :
 Calls Tryd.prog 20 #[.string a0, .string a1] w fun e w' => e = .returned (.tuple #[.string r1, .string r2, .bool r3]) ∧ Drawn0 w w' := by
 have H : ((strings_Cut.f a0 (⟨#[10]⟩ : ByteArray)).bind fun bt140 => (if a1.size + 1 ≤ 9223372036854775807 then ((strings_CutPrefix.f bt140.1 (a1 ++ (⟨#[32]⟩ : ByteArray))).bind fun bt143 => (if bt140.2.2 = true then (some (bt143.1, bt140.2.1, bt143.2)) else (some (bt143.1, bt140.2.1, false)))) else (none))) = some (r1, r2, r3) := h
 clear h
 replace H := Option.bind_eq_some_iff.mp H
 obtain ⟨⟨t140, t141, t142⟩, A30, H⟩ := H
 try dsimp only at H
 have A3 := Aside0.mk A30
 clear A30
 by_cases c4 : a1.size + 1 ≤ 9223372036854775807
 ·
  rw [if_pos c4] at H
  have c4b0 := eq_true c4
  have c4b1 : decide (a1.size + 1 ≤ 9223372036854775807) = true := decide_eq_true c4
  try have c4b2 : (9223372036854775807 < a1.size + 1) = False := eq_false (Nat.not_lt.2 c4)
  replace H := Option.bind_eq_some_iff.mp H
  obtain ⟨⟨t143, t144⟩, A50, H⟩ := H
  try dsimp only at H
  have A5 := Aside0.mk A50
  clear A50
  by_cases c6 : t142 = true
  · subst c6
    have H1 := H
    rw [if_pos rfl] at H1
    clear H
    have H := H1
    clear H1
    simp only [Option.some.injEq, Prod.mk.injEq] at H
    obtain ⟨rfl, rfl, rfl⟩ := H
    go_enter Tryd.func20, Tryd.ntmps20
    go_wp2_with (first | ((with_reducible refine gate_callee (f := 40) rfl ?_); refine goesM_ (some 14) Tryd.func40 #[.string a0, .string (⟨#[10]⟩ : ByteArray)] ?_; (with_reducible refine (strings_Cut.calls a0 (⟨#[10]⟩ : ByteArray) t140 t141 true _ A3.out).mono ?_); rintro e w' ⟨rfl, ⟨nd, rfl⟩⟩; refine ⟨_, rfl, ?_⟩) | ((with_reducible refine gate_callee (f := 22) rfl ?_); refine goesM_ (some 22) Tryd.func22 #[.string t140, .string (a1 ++ (⟨#[32]⟩ : ByteArray))] ?_; (with_reducible refine (strings_CutPrefix.calls t140 (a1 ++ (⟨#[32]⟩ : ByteArray)) t143 t144 _ A5.out).mono ?_); rintro e w' ⟨rfl, ⟨nd, rfl⟩⟩; refine ⟨_, rfl, ?_⟩))
    go_ret3
    exact ⟨ez_, dz_⟩
  · replace c6 := Bool.eq_false_iff.mpr c6
    subst c6
    have H1 := H
    rw [if_neg (show ¬ (false = true) by decide)] at H1
    clear H
    have H := H1
    clear H1
    simp only [Option.some.injEq, Prod.mk.injEq] at H
    obtain ⟨rfl, rfl, rfl⟩ := H
    go_enter Tryd.func20, Tryd.ntmps20
    go_wp2_with (first | ((with_reducible refine gate_callee (f := 40) rfl ?_); refine goesM_ (some 14) Tryd.func40 #[.string a0, .string (⟨#[10]⟩ : ByteArray)] ?_; (with_reducible refine (strings_Cut.calls a0 (⟨#[10]⟩ : ByteArray) t140 t141 false _ A3.out).mono ?_); rintro e w' ⟨rfl, ⟨nd, rfl⟩⟩; refine ⟨_, rfl, ?_⟩) | ((with_reducible refine gate_callee (f := 22) rfl ?_); refine goesM_ (some 22) Tryd.func22 #[.string t140, .string (a1 ++ (⟨#[32]⟩ : ByteArray))] ?_; (with_reducible refine (strings_CutPrefix.calls t140 (a1 ++ (⟨#[32]⟩ : ByteArray)) t143 t144 _ A5.out).mono ?_); rintro e w' ⟨rfl, ⟨nd, rfl⟩⟩; refine ⟨_, rfl, ?_⟩))
    go_ret3
    exact ⟨ez_, dz_⟩
 · rw [if_neg c4] at H
   exact absurd H (by simp)

/-! ### strings_IndexByte: function 70 (given by hand) -/
/-- strings.IndexByte, by the library's contract. -/
def strings_IndexByte.f (a0 : ByteArray) (a1 : Int) : Option (Int) := some (Lib.indexByte a0.data.toList a1.toNat.toUInt8)
theorem strings_IndexByte.lays : Lays.n217 Tryd.prog Tryd.lays219_ren := {
 mixed := Tryd.lays219.mixed
 f217 := Tryd.lays219.f217
 f266 := Tryd.lays219.f266
 t3 := Tryd.lays219.t3
 a3 := Tryd.lays219.a3
 z3 := Tryd.lays219.z3
 v3 := Tryd.lays219.v3
 t5 := Tryd.lays219.t5
 a5 := Tryd.lays219.a5
 z5 := Tryd.lays219.z5
 v5 := Tryd.lays219.v5
 t9 := Tryd.lays219.t9
 a9 := Tryd.lays219.a9
 z9 := Tryd.lays219.z9
 v9 := Tryd.lays219.v9 }
theorem strings_IndexByte.lite (a0 : ByteArray) (a1 : Int) (w : World) :
 Calls Tryd.prog 85 #[.string a0, .int .u8 a1] w fun e w' => e = .returned (.int .i64 (Lib.indexByte a0.data.toList a1.toNat.toUInt8)) ∧ w' = w := Go.Proofs.Any.stringslite_IndexByte strings_IndexByte.lays a0 a1 w
theorem strings_IndexByte.same (a0 : ByteArray) (a1 : Int) (w : World) :
 Calls Tryd.prog 70 #[.string a0, .int .u8 a1] w fun e w' => e = .returned (.int .i64 (Lib.indexByte a0.data.toList a1.toNat.toUInt8)) ∧ w' = w := by
 go_enter Tryd.func70, Tryd.ntmps70
 go_wp2_with (go_at_call 85; refine (strings_IndexByte.lite a0 a1 _).mono ?_; rintro e w' ⟨rfl, rfl⟩)
 go_ret
 exact ⟨rfl, rfl⟩
theorem strings_IndexByte.calls (a0 : ByteArray) (a1 : Int) (r : Int) (w : World) (h : strings_IndexByte.f a0 a1 = some r) :
 Calls Tryd.prog 70 #[.string a0, .int .u8 a1] w fun e w' => e = .returned (.int .i64 r) ∧ Drawn0 w w' := by
 have h2 := Option.some.inj h
 subst h2
 refine (strings_IndexByte.same a0 a1 w).mono ?_
 rintro e w' ⟨rfl, rfl⟩
 exact ⟨rfl, Drawn0.refl _⟩


/-! ### code_Unhex: function 49 (given by hand) -/
def code_Unhex.digits : ByteArray := ⟨#[48, 49, 50, 51, 52, 53, 54, 55, 56, 57, 97, 98, 99, 100, 101, 102]⟩
/-- What a digit is worth; below 0 it is none. -/
def code_Unhex.val (c : Int) : Int := Lib.indexByte code_Unhex.digits.data.toList c.toNat.toUInt8
theorem code_Unhex.index_lt (l : List UInt8) (c : UInt8) : Lib.indexByte l c < l.length ∧ -1 ≤ Lib.indexByte l c := by
 induction l with
 | nil => simp [Lib.indexByte]
 | cons b l ih =>
  simp only [Lib.indexByte, List.length_cons]
  split
  · omega
  · split
    · omega
    · omega
theorem code_Unhex.val_lt (c : Int) : code_Unhex.val c < 16 ∧ -1 ≤ code_Unhex.val c := code_Unhex.index_lt code_Unhex.digits.data.toList c.toNat.toUInt8
def code_Unhex.go : Nat → List Int → List Int → Option (List Int)
 | _, [], b => some b
 | i, c :: cs, b => if code_Unhex.val c < 0 then none else if i % 2 = 0 then code_Unhex.go (i + 1) cs (b ++ [code_Unhex.val c * 16]) else code_Unhex.go (i + 1) cs (b.set (b.length - 1) (IntKind.u8.wrap (rd b ((b.length : Int) - 1) + IntKind.u8.wrap (code_Unhex.val c))))
def code_Unhex.f (a0 : ByteArray) : Option (ByteArray × Int) := if a0.size ≤ 70368744177664 then (if a0.size % 2 = 0 then (match code_Unhex.go 0 (bytesOf a0) [] with
 | none => some (⟨#[]⟩, 6)
 | some b => some (strOfNums b, 0)) else some (⟨#[]⟩, 6)) else none
theorem code_Unhex.below_set {B : Nat} {w W : World} (h : Below B w W) {p : Addr} (hp : B ≤ p.block) (v : Value) : Below B w (W.setCell p v) :=
 ⟨h.os, h.tape, h.output, by simpa using h.size, fun k hk => (Below.heap_setCell W p v k (by omega)).trans (h.block k hk)⟩
theorem code_Unhex.info : (Tryd.prog.info? 5).map (fun i => (i.zero, i.size, i.bytes)) = some (some (.int .u8 0), 1, 1) := by kernel_rfl
set_option maxHeartbeats 4000000 in
set_option maxRecDepth 100000 in
theorem code_Unhex.calls (a0 : ByteArray) (r1 : ByteArray) (r2 : Int) (w : World) (h : code_Unhex.f a0 = some (r1, r2)) :
 Calls Tryd.prog 49 #[.string a0] w fun e w' => e = .returned (.tuple #[.string r1, .int .i64 r2]) ∧ Below w.heap.size w w' := by
 unfold code_Unhex.f at h
 by_cases hs : a0.size ≤ 70368744177664
 ·
  rw [if_pos hs] at h
  by_cases hp : a0.size % 2 = 0
  ·
   rw [if_pos hp] at h
   have H := Aside0.mk h
   have HS := Aside0.mk hs
   have tp : Int.tmod (a0.size : Int) 2 = 0 := by
    have e : Int.tmod (a0.size : Int) 2 = ((a0.size % 2 : Nat) : Int) := rfl
    rw [e, hp]
    rfl
   have tp2 : (a0.size : Int) % 2 = 0 := by omega
   have kb := fun W => print_bytes (P := Tryd.prog) 9 91 5 Tryd.underlying9 Tryd.underlying91 Tryd.underlying5 a0 W
   have RB := Aside0.mk (bytes_reads w 5 a0 (by omega))
   have BB := Aside0.mk (bytes_below (Below.refl w.heap.size w) (Nat.le_refl _) 5 a0)
   have SB := Aside0.mk (show (Lib.bytesWorld w 5 a0).heap.size = w.heap.size + 1 from Lib.bytesWorld_size w 5 a0)
   clear h
   go_enter Tryd.func49, Tryd.ntmps49
   go_wp2_with fail
   clear kb
   generalize Lib.bytesWorld w 5 a0 = W1 at *
   go_loopw [4, 15] (fun u4 u15 wr => ∃ (i : Nat) (b : List Int) (A : Option Addr) (c : Nat), u15 = .int .i64 i ∧ u4 = .slice A ((i + 1) / 2) c ∧ i ≤ a0.size ∧ Aside0 (wr.ownsRow W1.heap.size 5 1 (.slice A ((i + 1) / 2) c) ((i + 1) / 2) (nums .u8 b)) ∧ Aside0 (Below W1.heap.size W1 wr) ∧ Aside0 (code_Unhex.go 0 (bytesOf a0) [] = code_Unhex.go i ((bytesOf a0).drop i) b)) (fun _ u15 _ => a0.size - (intOf u15).toNat)
   case atStart => exact ⟨0, [], none, 0, rfl, rfl, by omega, ⟨own_nil _ _ _ _⟩, ⟨Below.refl _ _⟩, ⟨rfl⟩⟩
   case round =>
    obtain ⟨i, b, A, cp, rfl, rfl, hi, HQ, HB, HG⟩ := hrel
    have hbl : b.length = (i + 1) / 2 := by
     have := HQ.out.1
     simp [nums] at this
     exact this
    by_cases hlt : i < a0.size
    ·
     have hltI : (i : Int) < (a0.size : Int) := by omega
     obtain ⟨ad, ead, hcell⟩ := RB.out.2.2 (by omega)
     cases ead
     have hc := hcell i hlt
     rw [add_plain] at hc
     replace hc := (HB.out.cell (World.block_lt_of_cell? _ _ hc)).trans hc
     clear hcell
     have hlen : i < (bytesOf a0).length := by rw [bytesOf_length]; exact hlt
     have hdrop : (bytesOf a0).drop i = (bytesOf a0).getD i 0 :: (bytesOf a0).drop (i + 1) := by
      rw [List.getD_eq_getElem?_getD, List.getElem?_eq_getElem hlen]
      exact List.drop_eq_getElem_cons hlen
     rw [hdrop] at HG
     generalize (bytesOf a0).getD i 0 = c at *
     clear hlen hdrop
     have hv := code_Unhex.val_lt c
     have hcall := fun W => strings_IndexByte.same code_Unhex.digits c W
     have hcd : Lib.indexByte code_Unhex.digits.data.toList c.toNat.toUInt8 = code_Unhex.val c := rfl
     rw [hcd] at hcall
     have HC := Aside0.mk hcall
     rw [code_Unhex.go] at HG
     generalize code_Unhex.val c = d at *
     clear hcd hcall
     by_cases hd : d < 0
     · rw [if_pos hd] at HG
       have e1 := H.out
       rw [HG.out] at e1
       simp only [Option.some.injEq, Prod.mk.injEq] at e1
       obtain ⟨rfl, rfl⟩ := e1
       clear H HG
       have hdb : decide (d < 0) = true := decide_eq_true hd
       go_wp2_with (go_at_call 70; refine (HC.out _).mono ?_; rintro e w2 ⟨rfl, hw⟩; (have hw := hw.symm); subst hw)
       go_ret2
       exact ⟨rfl, BB.out.trans (HB.out.mono (by have := SB.out; omega))⟩
     ·
      rw [if_neg hd] at HG
      have hdb : decide (d < 0) = false := decide_eq_false hd
      have ti : Int.tmod (i : Int) 2 = ((i % 2 : Nat) : Int) := rfl
      by_cases hpi : i % 2 = 0
      · rw [if_pos hpi] at HG
        rw [hpi] at ti
        have ti2 : (i : Int) % 2 = 0 := by omega
        have wd : IntKind.i64.wrap (d * 16) = d * 16 := IntWalk.i64_in _ (by omega)
        have BL := Aside0.mk hbl
        have YL : Aside0 ((b ++ [d * 16]).length = (i + 1 + 1) / 2) := ⟨by rw [List.length_append, hbl]; show (i + 1) / 2 + 1 = _; omega⟩
        clear hbl
        go_wp2_with (first | (go_at_call 70; refine (HC.out _).mono ?_; rintro e w2 ⟨rfl, hw⟩; (have hw := hw.symm); subst hw) | ((with_reducible refine gate_builtin (b := .append) (xs := #[.tmp 27, .tmp 31]) rfl ?_); go_must (at_builtin; refine print_append_num (w0 := W1) (W := wr) W1.heap.size rfl (.tmp 27) (.tmp 31) 91 5 .u8 1 rfl Tryd.underlying91 code_Unhex.info (by decide) (.slice A ((i + 1) / 2) cp) b (d * 16) rfl rfl (by rw [BL.out]; exact HQ.out) HB.out HB.out.size (by rw [BL.out]; have := HS.out; omega) ?_; intro v4 w4 ho hb hg hat; rw [YL.out] at ho; obtain ⟨A4, c4, rfl⟩ := own_slice ho; have HO4 := Aside0.mk ho; have HB4 := Aside0.mk hb; clear ho hb hg hat)))
        go_roundw
        case rel => exact ⟨i + 1, b ++ [d * 16], A4, c4, rfl, rfl, by omega, HO4, HB4, HG⟩
        case measure =>
         simp [intOf]
         omega
      ·
       rw [if_neg hpi] at HG
       have hpi2 : i % 2 = 1 := by omega
       rw [hpi2] at ti
       have ti2 : (i : Int) % 2 = 1 := by omega
       obtain ⟨g, cap, ef, hgb, hgl⟩ := HQ.out.form (by omega)
       cases ef
       have hi2 : (((i + 1) / 2 : Nat) : Int) - 1 = (((i + 1) / 2 - 1 : Nat) : Int) := by omega
       obtain ⟨q1, q2⟩ := own_at HQ.out ((((i + 1) / 2 - 1 : Nat) : Int)) (by omega) (by omega)
       have QS := Aside0.mk (own_store HQ.out ((((i + 1) / 2 - 1 : Nat) : Int)) (IntKind.u8.wrap (rd b ((((i + 1) / 2 - 1 : Nat) : Int)) + IntKind.u8.wrap d)))
       simp only [Int.toNat_natCast] at q1 q2
       have BL := Aside0.mk hbl
       have hm : (i + 1) / 2 - 1 < (i + 1) / 2 := by omega
       have he : (i + 1) / 2 = (i + 1 + 1) / 2 := by omega
       have HE := Aside0.mk he
       clear hbl he
       generalize hM : (i + 1) / 2 - 1 = m at *
       generalize hN : (i + 1) / 2 = n at *
       generalize hR : rd b (m : Int) = x at *
       have wd : IntKind.u8.wrap d = d := by rw [IntKind.wrap_u8]; omega
       go_wp2_with (go_at_call 70; refine (HC.out _).mono ?_; rintro e w2 ⟨rfl, hw⟩; (have hw := hw.symm); subst hw)
       have ew : (x + d) % 256 = IntKind.u8.wrap (x + IntKind.u8.wrap d) := by rw [wd, IntKind.wrap_u8]
       rw [ew]
       have ebl : b.length - 1 = m := by rw [BL.out]; exact hM
       have ebi : (b.length : Int) - 1 = (m : Int) := by rw [BL.out]; exact hi2
       rw [ebl, ebi, hR] at HG
       have QO := QS.out.1
       simp only [Int.toNat_natCast] at QO
       refine ⟨⟨i + 1, b.set m (IntKind.u8.wrap (x + IntKind.u8.wrap d)), some ⟨g, 0, none⟩, cp, rfl, by rw [← HE.out], by omega, ⟨?_⟩, ⟨code_Unhex.below_set HB.out hgb _⟩, HG⟩, ?_⟩
       · rw [← HE.out]
         exact QO
       · simp [intOf]
         omega
    · obtain rfl : i = a0.size := by omega
      have e0 : code_Unhex.go 0 (bytesOf a0) [] = some b := by rw [HG.out, List.drop_eq_nil_of_le (by rw [bytesOf_length]; exact Nat.le_refl _), code_Unhex.go]
      have e1 := H.out
      rw [e0] at e1
      simp only [Option.some.injEq, Prod.mk.injEq] at e1
      obtain ⟨rfl, rfl⟩ := e1
      have hcs := own_string (P := Tryd.prog) (src := 91) (dst := 9) Tryd.underlying91 Tryd.underlying5 Tryd.underlying9 HQ.out
      clear H HG e0 hbl
      go_wp2_with fail
      go_ret2
      exact ⟨rfl, BB.out.trans (HB.out.mono (by have := SB.out; omega))⟩
  · rw [if_neg hp] at h
    have h' := Option.some.inj h
    simp only [Prod.mk.injEq] at h'
    obtain ⟨rfl, rfl⟩ := h'
    have tp : Int.tmod (a0.size : Int) 2 = 1 := by
     have e : Int.tmod (a0.size : Int) 2 = ((a0.size % 2 : Nat) : Int) := rfl
     rw [e, show a0.size % 2 = 1 by omega]
     rfl
    have tp2 : (a0.size : Int) % 2 = 1 := by omega
    go_enter Tryd.func49, Tryd.ntmps49
    go_wp2_with fail
    go_ret2
    exact ⟨rfl, Below.refl _ _⟩
 · rw [if_neg hs] at h
   cases h


end Go.Proofs.YtnapcfpecpgdbaaDoor.M
