/- The program's functions as plain functions, and that each call comes to what these tell; written by a program of this session, some contracts by hand. Conditions: none. -/
import Derived.Test.YtnapcfpecpgdbaaDoorMx0
import Derived.Test.YtnapcfpecpgdbaaDoorMx3
import Derived.Test.YtnapcfpecpgdbaaDoorMx4
namespace Go.Proofs.YtnapcfpecpgdbaaDoor.M
open Go.RowKit Go.Proofs.YtnapcfpecpgdbaaDoorW.PrintWords Go.Proofs.YtnapcfpecpgdbaaDoorW.PrintLast Go.Proofs.YtnapcfpecpgdbaaDoorW.PrintMore
attribute [local go_sem] max2_int min2_int max_two min_two max_three min_three max_four min_four   -- for this text's walks alone
set_option linter.unusedVariables false
set_option linter.unusedSimpArgs false

/-! ### object_CheckCommit: function 15 (given by hand) -/
/-- Is one of them no id? -/
def object_CheckCommit.odd (l : List ByteArray) : Bool := l.any fun s => decide (s.size ≠ 32)
/-- Does one stand twice? -/
def object_CheckCommit.dup (k : Nat) (l : List ByteArray) : Nat → Nat → Option Int
 | 0, _ => some 0
 | n + 1, i => (slices_Contains_string_string.f k (l.take i) (rdOf ByteArray.empty l i)).bind fun b => if b = true then some 6 else object_CheckCommit.dup k l n (i + 1)
def object_CheckCommit.f (k : Nat) (a0_0 : ByteArray) (l0_1 : List ByteArray) (a0_2 : ByteArray) (a0_3 : Int) (a0_4 : ByteArray) : Option Int :=
 if l0_1.length ≤ 1000000 then (if l0_1.length > 4 then some 3 else if object_CheckCommit.odd (a0_0 :: l0_1) = true then some 6 else (object_author.f a0_2).bind fun a => if a = true then ((object_text.f a0_4).bind fun t => if t = true then object_CheckCommit.dup k l0_1 l0_1.length 0 else some 6) else some 6) else none
theorem object_CheckCommit.dup_mono (k : Nat) (l : List ByteArray) : ∀ n i, LeO (object_CheckCommit.dup k l n i) (object_CheckCommit.dup (k + 1) l n i)
 | 0, _ => LeO.refl _
 | n + 1, i => by
  unfold object_CheckCommit.dup
  exact LeO.bind (slices_Contains_string_string.mono _ _ _) (fun _ => LeO.ite (LeO.refl _) (object_CheckCommit.dup_mono k l n (i + 1)))
theorem object_CheckCommit.mono : ∀ a0 a1 a2 a3 a4 k, LeO (object_CheckCommit.f k a0 a1 a2 a3 a4) (object_CheckCommit.f (k + 1) a0 a1 a2 a3 a4) := by
 intro a0 a1 a2 a3 a4 k
 unfold object_CheckCommit.f
 refine LeO.ite (LeO.ite (LeO.refl _) (LeO.ite (LeO.refl _) (LeO.bind (LeO.refl _) (fun _ => LeO.ite (LeO.bind (LeO.refl _) (fun _ => LeO.ite (object_CheckCommit.dup_mono _ _ _ _) (LeO.refl _))) (LeO.refl _))))) (LeO.none _)
set_option maxHeartbeats 4000000 in
set_option maxRecDepth 100000 in
theorem object_CheckCommit.lit (s : ByteArray) (w : World) :
 Calls Tryd.prog 36 #[.string s] w fun e w' => e = .returned (.bool (decide (s.size ≠ 32))) ∧ w' = w := by
 by_cases h : s.size = 32
 · have hb : ((s.size : Int) != 32) = false := by rw [h]; rfl
   go_enter Tryd.func36, Tryd.ntmps36
   go_wp2
   go_ret
   exact ⟨by simp [h], rfl⟩
 · have hb : ((s.size : Int) != 32) = true := by rw [bne_iff_ne]; omega
   go_enter Tryd.func36, Tryd.ntmps36
   go_wp2
   go_ret
   exact ⟨by simp [h], rfl⟩
set_option maxHeartbeats 4000000 in
set_option maxRecDepth 100000 in
theorem object_CheckCommit.index (A : Option Addr) (c : Nat) (l : List ByteArray) (w : World) (hr : Kd.C Kd.string w A l.length l) (hl : l.length ≤ 2000000) :
 Calls Tryd.prog 58 #[.slice A l.length c, .func (.func 36) #[] #[]] w fun e w' => ∃ i : Int, e = .returned (.int .i64 i) ∧ (0 ≤ i ↔ object_CheckCommit.odd l = true) ∧ w' = w := by
 have HR := Aside0.mk hr
 clear hr
 go_enter Tryd.func58, Tryd.ntmps58
 go_wp2
 go_loop [8] (fun u8 => ∃ j : Nat, u8 = .int .i64 j ∧ j ≤ l.length ∧ Aside0 (object_CheckCommit.odd (l.take j) = false)) (fun u8 => l.length - (intOf u8).toNat)
 case atStart => exact ⟨0, rfl, by omega, ⟨rfl⟩⟩
 case round =>
  obtain ⟨j, rfl, hj, HO⟩ := hrel
  by_cases hlt : j < l.length
  ·
   have hltI : (j : Int) < (l.length : Int) := by omega
   have p0 : (0 : Int) ≤ (j : Int) := by omega
   obtain ⟨ad, e1, hx⟩ := Kd.at_string HR.out (j : Int) p0 hltI
   cases e1
   rw [Int.toNat_natCast] at hx
   have htk : l.take (j + 1) = l.take j ++ [rdOf ByteArray.empty l (j : Int)] := by
    rw [← List.take_append_getElem hlt]
    congr 2
    unfold rdOf
    rw [Int.toNat_natCast, List.getD_eq_getElem?_getD, List.getElem?_eq_getElem hlt]
    rfl
   have hin : rdOf ByteArray.empty l (j : Int) ∈ l := by
    unfold rdOf
    rw [Int.toNat_natCast, List.getD_eq_getElem?_getD, List.getElem?_eq_getElem hlt]
    exact List.getElem_mem hlt
   have HT := Aside0.mk htk
   have HI := Aside0.mk hin
   clear htk hin
   generalize rdOf ByteArray.empty l (j : Int) = s at *
   by_cases hs : s.size = 32
   · have hd : decide (s.size ≠ 32) = false := by simp [hs]
     go_wp2_with (go_at_call 36; go_must (refine (object_CheckCommit.lit s _).mono ?_; rintro e w2 ⟨rfl, hw⟩; rw [hd]; (have hw := hw.symm); subst hw))
     go_round
     case rel =>
      refine ⟨j + 1, rfl, by omega, ⟨?_⟩⟩
      rw [HT.out, object_CheckCommit.odd, List.any_append]
      have := HO.out
      rw [object_CheckCommit.odd] at this
      rw [this]
      simp [hs]
     case measure =>
      simp [intOf]
      omega
   · have hd : decide (s.size ≠ 32) = true := by simp [hs]
     go_wp2_with (go_at_call 36; go_must (refine (object_CheckCommit.lit s _).mono ?_; rintro e w2 ⟨rfl, hw⟩; rw [hd]; (have hw := hw.symm); subst hw))
     go_ret
     refine ⟨(j : Int), rfl, ⟨fun _ => ?_, fun _ => p0⟩, rfl⟩
     rw [object_CheckCommit.odd, List.any_eq_true]
     exact ⟨s, HI.out, hd⟩
  · obtain rfl : j = l.length := by omega
    have ho := HO.out
    rw [List.take_of_length_le (Nat.le_refl _)] at ho
    go_wp2
    go_ret
    have hne : (0 : Int) ≤ -1 ↔ object_CheckCommit.odd l = true := Iff.intro (fun h => absurd h (by decide)) (fun h => by rw [ho] at h; cases h)
    first | exact ⟨-1, rfl, hne, rfl⟩ | exact ⟨-1, rfl, by decide, rfl⟩
set_option maxHeartbeats 4000000 in
set_option maxRecDepth 100000 in
theorem object_CheckCommit.contains (A : Option Addr) (c : Nat) (l : List ByteArray) (w : World) (hr : Kd.C Kd.string w A l.length l) (hl : l.length ≤ 2000000) :
 Calls Tryd.prog 35 #[.slice A l.length c, .func (.func 36) #[] #[]] w fun e w' => e = .returned (.bool (object_CheckCommit.odd l)) ∧ w' = w := by
 go_enter Tryd.func35, Tryd.ntmps35
 by_cases ho : object_CheckCommit.odd l = true
 · go_wp2_with (go_at_call 58; go_must (refine (object_CheckCommit.index A c l _ hr hl).mono ?_; rintro e w2 ⟨i, rfl, hi, hw⟩; (have hi2 := hi.mpr ho); (have hw := hw.symm); subst hw))
   go_ret
   exact ⟨by rw [ho]; rfl, rfl⟩
 · go_wp2_with (go_at_call 58; go_must (refine (object_CheckCommit.index A c l _ hr hl).mono ?_; rintro e w2 ⟨i, rfl, hi, hw⟩; (have hi2 : ¬ 0 ≤ i := fun h => ho (hi.mp h)); (have hw := hw.symm); subst hw))
   go_ret
   exact ⟨by rw [Bool.not_eq_true] at ho; rw [ho]; rfl, rfl⟩
theorem object_CheckCommit.info : (Tryd.prog.info? 9).map (fun i => (i.zero, i.size, i.bytes)) = some (some (.string ⟨#[]⟩), 1, 16) := by kernel_rfl
set_option maxHeartbeats 8000000 in
set_option maxRecDepth 100000 in
theorem object_CheckCommit.calls (k : Nat) (a0_0 : ByteArray) (A0_1 : Option Addr) (c0_1 : Nat) (l0_1 : List ByteArray) (a0_2 : ByteArray) (a0_3 : Int) (a0_4 : ByteArray) (r : Int) (w : World) (hr0_1 : Kd.C Kd.string w A0_1 l0_1.length l0_1) (hc0_1 : l0_1.length ≤ c0_1) (h : object_CheckCommit.f k a0_0 l0_1 a0_2 a0_3 a0_4 = some r) :
 Calls Tryd.prog 15 #[.agg #[.string a0_0, .slice A0_1 l0_1.length c0_1, .string a0_2, .int .u64 a0_3, .string a0_4]] w fun e w' => e = .returned (.int .i64 r) ∧ Below w.heap.size w w' := by
 have hu := Tryd.underlying25
 unfold object_CheckCommit.f at h
 by_cases hl : l0_1.length ≤ 1000000
 ·
  rw [if_pos hl] at h
  have H := Aside0.mk h
  have HL := Aside0.mk hl
  have HR := Aside0.mk hr0_1
  have HC := Aside0.mk hc0_1
  clear h hl hr0_1 hc0_1
  go_enter Tryd.func15, Tryd.ntmps15
  go_upto_region 1 with (fail)
  have hg1 := heap_alloc_new w (.cells #[.string a0_0, .slice A0_1 l0_1.length c0_1, .string a0_2, .int .u64 a0_3, .string a0_4] 25)
  have hb1 := below_alloc (Below.refl w.heap.size w) (.cells #[.string a0_0, .slice A0_1 l0_1.length c0_1, .string a0_2, .int .u64 a0_3, .string a0_4] 25)
  have hz1 : (w.alloc (.cells #[.string a0_0, .slice A0_1 l0_1.length c0_1, .string a0_2, .int .u64 a0_3, .string a0_4] 25)).heap.size = w.heap.size + 1 := by simp
  generalize w.alloc (.cells #[.string a0_0, .slice A0_1 l0_1.length c0_1, .string a0_2, .int .u64 a0_3, .string a0_4] 25) = W1 at *
  have HR1 := Aside0.mk (Kd.C_below HR.out hb1)
  have HB1 := Aside0.mk hb1
  have HG1 := Aside0.mk hg1
  have HZ1 := Aside0.mk hz1
  have x0 : W1.cell? ⟨w.heap.size, 0, none⟩ = some (.string a0_0) := by rw [Lib.cell_of_heap hg1]; rfl
  have x1 : W1.cell? ⟨w.heap.size, 1, none⟩ = some (.slice A0_1 l0_1.length c0_1) := by rw [Lib.cell_of_heap hg1]; rfl
  clear hg1 hb1 hz1 HR
  generalize hg : w.heap.size = g at *
  go_upto_region 2 with (first | ((with_reducible refine gate_dst (N := 9) rfl ?_); go_must (refine Kd.R_lit Kd.string (w0 := W1) W1.heap.size 9 ?hg (N := 9) ?hd (xs := [a0_0]) (inner := [.string a0_0]) (ok := fun _ => True) (okp := fun _ => True) ?hr ?hp (fun _ hk => hk) trivial (Below.refl _ _) (Nat.le_refl _) (by simp) ?_; (case hd => rfl); (case hg => rfl); (case hr => first | (go_simp; done) | (go_simp; rfl)); (case hp => exact (Reps.one (show Kd.M Kd.string _ _ _ a0_0 [.string a0_0] from rfl) (Reps.none _ _))); intro v104 w2 ho3 hb hg_ hnew_; clear hg_ hnew_; have HO := Aside0.mk ho3; have HB2 := Aside0.mk hb; have z1 : w2.cell? ⟨g, 1, none⟩ = some (.slice A0_1 l0_1.length c0_1) := (by rw [Lib.cell_of_heap ((hb.block g (by rw [HZ1.out]; omega)).trans HG1.out)]; rfl); clear hb ho3)) | ((with_reducible refine gate_builtin (b := .append) (xs := #[.tmp 9, .tmp 11]) rfl ?_); go_must (at_builtin; refine Kd.R_append_rows Kd.string (w0 := W1) W1.heap.size rfl (.tmp 9) (.tmp 11) 22 9 (.string ⟨#[]⟩) 16 rfl Tryd.underlying22 object_CheckCommit.info rfl (by decide) (by omega) v104 [a0_0] l0_1 _ _ _ (fun _ => True) (fun _ => False) rfl rfl ?aO ?aR (fun _ _ h => h) (fun _ h => h.elim) ?aF ?aB ?aS ?aL ?_; (case aR => exact Kd.C_below HR1.out HB2.out); (case aO => exact HO.out); (case aF => exact (fun _ _ => trivial)); (case aB => exact HB2.out); (case aS => exact HB2.out.size); (case aL => have := HL.out; simp; omega); intro v107 w3 ho hb hg_ hat; have HO3 := Aside0.mk ho; have HB3 := Aside0.mk hb; clear ho hb hg_ hat)))
  have hB3 : Below g w w3 := HB1.out.trans (HB3.out.mono (by have := HZ1.out; omega))
  have hg3 := (HB3.out.block g (by have := HZ1.out; omega)).trans HG1.out
  have HR3 := Aside0.mk (Kd.C_below HR1.out HB3.out)
  have ho3 : Kd.R Kd.string 9 w3 W1.heap.size (fun _ => True) v107 (a0_0 :: l0_1) := HO3.out
  obtain ⟨A5, c5, rfl⟩ := Kd.R_slice ho3
  have hC5 : Kd.C Kd.string w3 A5 (a0_0 :: l0_1).length (a0_0 :: l0_1) := (Kd.R_reads' ho3).2.2
  have IDS := Aside0.mk hC5
  have B3 := Aside0.mk hB3
  have G3 := Aside0.mk hg3
  have y1 : w3.cell? ⟨g, 1, none⟩ = some (.slice A0_1 l0_1.length c0_1) := by rw [Lib.cell_of_heap hg3]; rfl
  have y2 : w3.cell? ⟨g, 2, none⟩ = some (.string a0_2) := by rw [Lib.cell_of_heap hg3]; rfl
  have y4 : w3.cell? ⟨g, 4, none⟩ = some (.string a0_4) := by rw [Lib.cell_of_heap hg3]; rfl
  have hlt3 : g < w3.heap.size := (Array.getElem?_eq_some_iff.mp hg3).1
  clear hB3 hg3 ho3 hC5 HO3 HB3 HB1 HG1 HZ1 HR1 x0 x1 z1 HO HB2
  have hl2 := HL.out
  go_upto_region 3 with (go_at_call 35; go_must (refine (object_CheckCommit.contains A5 c5 (a0_0 :: l0_1) _ IDS.out (by show l0_1.length + 1 ≤ _; omega)).mono ?_; rintro e w4 ⟨rfl, hw⟩; (have hw := hw.symm); subst hw))
  have h := H.out
  by_cases h4 : l0_1.length > 4
  · rw [if_pos h4] at h
    obtain rfl := Option.some.inj h
    have h4b : decide (4 < (l0_1.length : Int)) = true := decide_eq_true (by omega)
    go_wp2_with fail
    go_ret
    exact ⟨rfl, B3.out⟩
  ·
   rw [if_neg h4] at h
   have h4b : decide (4 < (l0_1.length : Int)) = false := decide_eq_false (by omega)
   by_cases ho : object_CheckCommit.odd (a0_0 :: l0_1) = true
   · rw [if_pos ho] at h
     obtain rfl := Option.some.inj h
     rw [ho]
     go_wp2_with fail
     go_ret
     exact ⟨rfl, B3.out⟩
   ·
    rw [if_neg ho] at h
    rw [Bool.not_eq_true] at ho
    rw [ho]
    obtain ⟨a, ha, h⟩ := Option.bind_eq_some_iff.mp h
    have HA := Aside0.mk ha
    cases a with
    | false =>
     rw [if_neg (by decide)] at h
     obtain rfl := Option.some.inj h
     go_wp2_with (go_at_call 37; go_must (refine (object_author.calls a0_2 false _ HA.out).mono ?_; rintro e w4 ⟨rfl, hb4⟩))
     go_ret
     exact ⟨rfl, by rw [hg]; exact B3.out.trans (hb4.mono (Nat.le_of_lt hlt3))⟩
    | true =>
     rw [if_pos rfl] at h
     obtain ⟨t, ht, h⟩ := Option.bind_eq_some_iff.mp h
     have HT := Aside0.mk ht
     go_upto_region 7 with (go_at_call 37; go_must (refine (object_author.calls a0_2 true _ HA.out).mono ?_; rintro e w4 ⟨rfl, hb4⟩; have B4 := Aside0.mk (B3.out.trans (hb4.mono (Nat.le_of_lt hlt3))); have G4 := Aside0.mk ((hb4.block g hlt3).trans G3.out); have HR4 := Aside0.mk (Kd.C_below HR3.out hb4); have hlt4 : g < w4.heap.size := (Nat.lt_of_lt_of_le hlt3 hb4.size); have z1 : w4.cell? ⟨g, 1, none⟩ = some (.slice A0_1 l0_1.length c0_1) := (by rw [Lib.cell_of_heap G4.out]; rfl); have z4 : w4.cell? ⟨g, 4, none⟩ = some (.string a0_4) := (by rw [Lib.cell_of_heap G4.out]; rfl)))
     have CK := Aside0.mk h
     clear h H HA IDS HR3 G3 y1 y2 y4
     cases t with
     | false =>
      have h := CK.out
      rw [if_neg (by decide)] at h
      obtain rfl := Option.some.inj h
      go_wp2_with (go_at_call 38; go_must (refine (object_text.calls a0_4 false _ HT.out).mono ?_; rintro e w5 ⟨rfl, hb5⟩))
      go_ret
      exact ⟨rfl, by rw [hg]; exact B4.out.trans (hb5.mono (Nat.le_of_lt hlt4))⟩
     | true =>
      have h := CK.out
      rw [if_pos rfl] at h
      have DU := Aside0.mk h
      clear h CK
      go_upto_region 9 with (go_at_call 38; go_must (refine (object_text.calls a0_4 true _ HT.out).mono ?_; rintro e w5 ⟨rfl, hb5⟩; have B5 := Aside0.mk (B4.out.trans (hb5.mono (Nat.le_of_lt hlt4))); have hg5 := (hb5.block g hlt4).trans G4.out; have HR5 := Aside0.mk (Kd.C_below HR4.out hb5); have v1 : w5.cell? ⟨g, 1, none⟩ = some (.slice A0_1 l0_1.length c0_1) := (by rw [Lib.cell_of_heap hg5]; rfl); clear hg5))
      clear B4 G4 HR4 z1 z4 HT
      go_wp2_with fail
      go_loopw [33] (fun u33 wr => ∃ i : Nat, u33 = .int .i64 i ∧ i ≤ l0_1.length ∧ Drawn0 w5 wr ∧ Aside0 (object_CheckCommit.dup k l0_1 (l0_1.length - i) i = some r)) (fun u33 _ => l0_1.length - (intOf u33).toNat)
      case atStart => exact ⟨0, rfl, by omega, Drawn0.refl _, DU⟩
      case round =>
       clear DU
       obtain ⟨i, rfl, hi, ⟨m1, rfl⟩, DU⟩ := hrel
       by_cases hlt : i < l0_1.length
       ·
        have hltI : (i : Int) < (l0_1.length : Int) := by omega
        have p0 : (0 : Int) ≤ (i : Int) := by omega
        obtain ⟨ad, e1, hx⟩ := Kd.at_string HR5.out (i : Int) p0 hltI
        rw [Int.toNat_natCast] at hx
        cases e1
        have hd := DU.out
        rw [show l0_1.length - i = (l0_1.length - (i + 1)) + 1 by omega, object_CheckCommit.dup] at hd
        obtain ⟨b, hb, hd⟩ := Option.bind_eq_some_iff.mp hd
        have hC := Kd.C_take HR5.out (m := i) hi
        have htl : (l0_1.take i).length = i := by rw [List.length_take]; omega
        have CN := Aside0.mk hb
        have TK := Aside0.mk hC
        have TL := Aside0.mk htl
        have hic : i ≤ c0_1 := by have := HC.out; omega
        have hicI : (i : Int) ≤ (c0_1 : Int) := by omega
        clear hb hC htl
        cases b with
        | true =>
         rw [if_pos rfl] at hd
         obtain rfl := Option.some.inj hd
         go_wp2_with (go_at_call 39; go_must (have C_ := slices_Contains_string_string.calls k (some ad) c0_1 (l0_1.take i) (rdOf ByteArray.empty l0_1 (i : Int)) true (w5.drewN m1) (Kd.C_drewN TK.out m1) (by rw [TL.out]; exact hic) CN.out; rw [TL.out] at C_; refine C_.mono ?_; clear C_; rintro e w6 ⟨rfl, ⟨nd, rfl⟩⟩))
         go_ret
         exact ⟨rfl, by first | exact pw_below_drewN B5.out _ | exact pw_below_drewN (pw_below_drewN B5.out _) _ | (rw [hg]; first | exact pw_below_drewN B5.out _ | exact pw_below_drewN (pw_below_drewN B5.out _) _)⟩
        | false =>
         rw [if_neg (by decide)] at hd
         have DN := Aside0.mk hd
         clear hd DU
         go_wp2_with (go_at_call 39; go_must (have C_ := slices_Contains_string_string.calls k (some ad) c0_1 (l0_1.take i) (rdOf ByteArray.empty l0_1 (i : Int)) false (w5.drewN m1) (Kd.C_drewN TK.out m1) (by rw [TL.out]; exact hic) CN.out; rw [TL.out] at C_; refine C_.mono ?_; clear C_; rintro e w6 ⟨rfl, ⟨nd, rfl⟩⟩))
         go_roundw
         case rel => exact ⟨i + 1, rfl, by omega, ⟨_, rfl⟩, DN⟩
         case measure =>
          simp [intOf]
          omega
       · obtain rfl : i = l0_1.length := by omega
         have hd := DU.out
         rw [Nat.sub_self, object_CheckCommit.dup] at hd
         obtain rfl := Option.some.inj hd
         go_wp2_with fail
         go_ret
         exact ⟨rfl, by first | exact pw_below_drewN B5.out m1 | (rw [hg]; exact pw_below_drewN B5.out m1)⟩
 · rw [if_neg hl] at h
   cases h


end Go.Proofs.YtnapcfpecpgdbaaDoor.M
