/- The program's functions as plain functions, and that each call comes to what these tell; written by a program of this session, some contracts by hand. Conditions: none. -/
import Derived.Test.YtnapcfpecpgdbaaDoorMx0
import Derived.Test.YtnapcfpecpgdbaaDoorMx2
namespace Go.Proofs.YtnapcfpecpgdbaaDoor.M
open Go.RowKit Go.Proofs.YtnapcfpecpgdbaaDoorW.PrintWords Go.Proofs.YtnapcfpecpgdbaaDoorW.PrintLast Go.Proofs.YtnapcfpecpgdbaaDoorW.PrintMore
attribute [local go_sem] max2_int min2_int max_two min_two max_three min_three max_four min_four   -- for this text's walks alone
set_option linter.unusedVariables false
set_option linter.unusedSimpArgs false

/-! ### ob_Open: function 16 -/
def ob_Open.j0 : Nat → ByteArray → ByteArray → Int → Bool → Option (Int × ByteArray × Int)
 | 0, _, _, _, _ => none
 | k + 1, x6, x9, x11, x34 => if x34 = true then (some (0, (⟨#[]⟩ : ByteArray), 6)) else (if x11 < 1 then (some (0, (⟨#[]⟩ : ByteArray), 70)) else ((code_Undec.f k x9).bind fun bt115 => (if bt115.2 = 0 then (if bt115.1 > 262144 then (some (0, (⟨#[]⟩ : ByteArray), 3)) else (if (wrap64 (bt115.1)) > (x6.size : Int) then (some (0, (⟨#[]⟩ : ByteArray), 4)) else (if (wrap64 (bt115.1)) < (x6.size : Int) then (some (0, (⟨#[]⟩ : ByteArray), 5)) else (some (x11, x6, 0))))) else (some (0, (⟨#[]⟩ : ByteArray), bt115.2)))))
def ob_Open.f (k : Nat) (a0 : ByteArray) : Option (Int × ByteArray × Int) := (strings_Cut.f a0 (⟨#[0]⟩ : ByteArray)).bind fun bt105 => ((strings_Cut.f bt105.1 (⟨#[32]⟩ : ByteArray)).bind fun bt108 => ((ob_kinds.f).bind fun t111 => ((sIx.f k t111 bt108.1).bind fun t114 => (if bt105.2.2 = true then (ob_Open.j0 k bt105.2.1 bt108.2.1 t114 (!bt108.2.2)) else (ob_Open.j0 k bt105.2.1 bt108.2.1 t114 true)))))
theorem ob_Open.mono_l : ∀ k, (∀ y0 y1 y2 y3, LeO (ob_Open.j0 k y0 y1 y2 y3) (ob_Open.j0 (k + 1) y0 y1 y2 y3))
 | 0 => fun _ _ _ _ r h => by simp [ob_Open.j0] at h
 | k + 1 => by
  have ih0 := ob_Open.mono_l k
  ·
   intro y0 y1 y2 y3
   unfold ob_Open.j0
   repeat' with_reducible first | exact ih0 _ _ _ _ | exact code_Undec.mono _ _ | exact sIx.mono _ _ _ | exact LeO.refl _ | exact LeO.none _ | refine LeO.ite ?_ ?_ | refine LeO.bind ?_ (fun _ => ?_)
theorem ob_Open.mono : ∀ a0 k, LeO (ob_Open.f k a0) (ob_Open.f (k + 1) a0) := by
 intro a0 k
 have ih0 := ob_Open.mono_l k
 unfold ob_Open.f
 repeat' with_reducible first | exact ih0 _ _ _ _ | exact code_Undec.mono _ _ | exact sIx.mono _ _ _ | exact LeO.refl _ | exact LeO.none _ | refine LeO.ite ?_ ?_ | refine LeO.bind ?_ (fun _ => ?_)
set_option maxHeartbeats 8000000 in
set_option maxRecDepth 100000 in
theorem ob_Open.calls (k : Nat) (a0 : ByteArray) (r1 : Int) (r2 : ByteArray) (r3 : Int) (w : World) (h : ob_Open.f k a0 = some (r1, r2, r3)) :
 Calls Tryd.prog 16 #[.string a0] w fun e w' => e = .returned (.tuple #[.int .i64 r1, .string r2, .int .i64 r3]) ∧ Below w.heap.size w w' := by
 have HB := Aside0.mk (Below.refl w.heap.size w)
 have H : ((strings_Cut.f a0 (⟨#[0]⟩ : ByteArray)).bind fun bt105 => ((strings_Cut.f bt105.1 (⟨#[32]⟩ : ByteArray)).bind fun bt108 => ((ob_kinds.f).bind fun t111 => ((sIx.f k t111 bt108.1).bind fun t114 => (if bt105.2.2 = true then (ob_Open.j0 k bt105.2.1 bt108.2.1 t114 (!bt108.2.2)) else (ob_Open.j0 k bt105.2.1 bt108.2.1 t114 true)))))) = some (r1, r2, r3) := h
 clear h
 replace H := Option.bind_eq_some_iff.mp H
 obtain ⟨⟨t105, t106, t107⟩, A20, H⟩ := H
 try dsimp only at H
 have A2 := Aside0.mk A20
 clear A20
 replace H := Option.bind_eq_some_iff.mp H
 obtain ⟨⟨t108, t109, t110⟩, A30, H⟩ := H
 try dsimp only at H
 have A3 := Aside0.mk A30
 clear A30
 replace H := Option.bind_eq_some_iff.mp H
 obtain ⟨t111, A40, H⟩ := H
 try dsimp only at H
 have A4 := Aside0.mk A40
 clear A40
 replace H := Option.bind_eq_some_iff.mp H
 obtain ⟨t114, A50, H⟩ := H
 try dsimp only at H
 have A5 := Aside0.mk A50
 clear A50
 have HC6 := Aside0.mk H
 clear H
 go_enter Tryd.func16, Tryd.ntmps16
 go_upto_region 4 with (first | ((with_reducible refine gate_callee (f := 40) rfl ?_); refine goesM_ (some 16) Tryd.func40 #[.string a0, .string (⟨#[0]⟩ : ByteArray)] ?_; (with_reducible refine (strings_Cut.calls a0 (⟨#[0]⟩ : ByteArray) t105 t106 t107 _ A2.out).mono ?_); rintro e w' ⟨rfl, ⟨nd, rfl⟩⟩; refine ⟨_, rfl, ?_⟩) | ((with_reducible refine gate_callee (f := 40) rfl ?_); refine goesM_ (some 22) Tryd.func40 #[.string t105, .string (⟨#[32]⟩ : ByteArray)] ?_; (with_reducible refine (strings_Cut.calls t105 (⟨#[32]⟩ : ByteArray) t108 t109 t110 _ A3.out).mono ?_); rintro e w' ⟨rfl, ⟨nd, rfl⟩⟩; refine ⟨_, rfl, ?_⟩) | ((with_reducible refine gate_callee (f := 42) rfl ?_); refine goesM_ (some 26) Tryd.func42 #[] ?_; (with_reducible refine (ob_kinds.calls  t111 _ A4.out).mono ?_); rintro e w7 ⟨v112, rfl, ho0, hb⟩; refine ⟨_, rfl, ?_⟩; have n0_ := Aside0.mk (Kd.R_lower ho0 (below_size bz_)); have n1_ := Aside0.mk (below_step bz_ hb); clear HB; have HO113 := n0_; have HB := n1_; clear n0_ n1_; (try clear hb); (try clear hb2); (try clear hk); (try clear hi); (try clear ho0); obtain ⟨Ao8, co8, eo8⟩ := Kd.R_slice HO113.out; subst eo8) | ((with_reducible refine gate_callee (f := 41) rfl ?_); refine goesM_ (some 28) Tryd.func41 #[.slice Ao8 t111.length co8, .string t108] ?_; (with_reducible refine (sIx.calls k _ _ t111 t108 t114 _ ?side1 ?side2 A5.out).mono ?_); (case side1 => repeat (first | exact (Kd.R_reads' HO113.out).2.2 | (with_reducible refine Kd.C_alloc ?_ _) | (with_reducible refine Kd.C_drewN ?_ _) | (with_reducible refine Kd.C_drew ?_))); (case side2 => exact (Kd.R_reads' HO113.out).2.1); rintro e w' ⟨rfl, ⟨nd, rfl⟩⟩; refine ⟨_, rfl, ?_⟩))
 (try simp only [Act.put, List.setIfInBounds_toArray, List.set_cons_zero, List.set_cons_succ])
 go_cut [34] (fun v34 wc => ∃ (kq : Nat) (x34_5 : Bool), v34 = .bool x34_5 ∧ Aside0 (ob_Open.j0 kq t106 t109 t114 x34_5 = some (r1, r2, r3)) ∧ Aside0 (kq ≤ k) ∧ Aside0 (Below w.heap.size w wc))
 case first =>
  have H := HC6.out
  clear HC6
  by_cases c9 : t107 = true
  · subst c9
    have H1 := H
    rw [if_pos rfl] at H1
    clear H
    have H := H1
    clear H1
    have H' := Aside0.mk H
    clear H
    go_wp2
    go_meet
    case rel => exact ⟨_, (!t110), ez_, H', ⟨by first | omega | exact Nat.le_refl _⟩, ⟨bz_⟩⟩
  · replace c9 := Bool.eq_false_iff.mpr c9
    subst c9
    have H1 := H
    rw [if_neg (show ¬ (false = true) by decide)] at H1
    clear H
    have H := H1
    clear H1
    have H' := Aside0.mk H
    clear H
    go_wp2
    go_meet
    case rel => exact ⟨_, (true), ez_, H', ⟨by first | omega | exact Nat.le_refl _⟩, ⟨bz_⟩⟩
 case rest =>
  clear HC6
  try clear c1
  try clear p2
  try clear c4
  try clear c9
  obtain ⟨kq, x34_5, rfl, HA, HJ5, HB⟩ := hcut
  cases kq with
  | zero => exact absurd HA.out (by simp [ob_Open.j0])
  | succ kj5 =>
   have H := HA.out
   clear HA
   simp only [ob_Open.j0] at H
   by_cases c10 : x34_5 = true
   · subst c10
     have H1 := H
     rw [if_pos rfl] at H1
     clear H
     have H := H1
     clear H1
     simp only [Option.some.injEq, Prod.mk.injEq] at H
     obtain ⟨rfl, rfl, rfl⟩ := H
     go_wp2
     go_ret3
     exact ⟨xz_, bz_⟩
   ·
    replace c10 := Bool.eq_false_iff.mpr c10
    subst c10
    have H1 := H
    rw [if_neg (show ¬ (false = true) by decide)] at H1
    clear H
    have H := H1
    clear H1
    by_cases c11 : t114 < 1
    · rw [if_pos c11] at H
      have c11b0 : decide (t114 < 1) = true := decide_eq_true c11
      clear c11
      simp only [Option.some.injEq, Prod.mk.injEq] at H
      obtain ⟨rfl, rfl, rfl⟩ := H
      go_wp2
      go_ret3
      exact ⟨xz_, bz_⟩
    ·
     rw [if_neg c11] at H
     have c11b0 : decide (t114 < 1) = false := decide_eq_false c11
     clear c11
     replace H := Option.bind_eq_some_iff.mp H
     obtain ⟨⟨t115, t116⟩, A120, H⟩ := H
     try dsimp only at H
     have A12 := Aside0.mk A120
     clear A120
     by_cases c13 : t116 = 0
     ·
      rw [if_pos c13] at H
      have c13b0 : (t116 == 0) = true := beq_iff_eq.mpr c13
      have c13b1 : (t116 != 0) = false := bne_eq_false_iff_eq.mpr c13
      clear c13
      by_cases c14 : t115 > 262144
      · rw [if_pos c14] at H
        have c14b0 : decide (262144 < t115) = true := decide_eq_true c14
        clear c14
        simp only [Option.some.injEq, Prod.mk.injEq] at H
        obtain ⟨rfl, rfl, rfl⟩ := H
        go_wp2_with (first | ((with_reducible refine gate_callee (f := 23) rfl ?_); refine goesM_ (some 39) Tryd.func23 #[.string t109] ?_; (with_reducible refine (code_Undec.calls kj5 t109 t115 t116 _ A12.out).mono ?_); rintro e w15 ⟨rfl, hb⟩; refine ⟨_, rfl, ?_⟩; have n0_ := Aside0.mk (below_step bz_ hb); clear HB; have HB := n0_; clear n0_; (try clear hb); (try clear hb2); (try clear hk); (try clear hi)))
        go_ret3
        exact ⟨xz_, bz_⟩
      ·
       rw [if_neg c14] at H
       have c14b0 : decide (262144 < t115) = false := decide_eq_false c14
       clear c14
       by_cases c16 : (wrap64 (t115)) > (t106.size : Int)
       · rw [if_pos c16] at H
         have c16b0 : decide ((t106.size : Int) < (wrap64 (t115))) = true := decide_eq_true c16
         clear c16
         simp only [Option.some.injEq, Prod.mk.injEq] at H
         obtain ⟨rfl, rfl, rfl⟩ := H
         go_wp2_with (first | ((with_reducible refine gate_callee (f := 23) rfl ?_); refine goesM_ (some 39) Tryd.func23 #[.string t109] ?_; (with_reducible refine (code_Undec.calls kj5 t109 t115 t116 _ A12.out).mono ?_); rintro e w17 ⟨rfl, hb⟩; refine ⟨_, rfl, ?_⟩; have n0_ := Aside0.mk (below_step bz_ hb); clear HB; have HB := n0_; clear n0_; (try clear hb); (try clear hb2); (try clear hk); (try clear hi)))
         go_ret3
         exact ⟨xz_, bz_⟩
       ·
        rw [if_neg c16] at H
        have c16b0 : decide ((t106.size : Int) < (wrap64 (t115))) = false := decide_eq_false c16
        clear c16
        by_cases c18 : (wrap64 (t115)) < (t106.size : Int)
        · rw [if_pos c18] at H
          have c18b0 : decide ((wrap64 (t115)) < (t106.size : Int)) = true := decide_eq_true c18
          clear c18
          simp only [Option.some.injEq, Prod.mk.injEq] at H
          obtain ⟨rfl, rfl, rfl⟩ := H
          go_wp2_with (first | ((with_reducible refine gate_callee (f := 23) rfl ?_); refine goesM_ (some 39) Tryd.func23 #[.string t109] ?_; (with_reducible refine (code_Undec.calls kj5 t109 t115 t116 _ A12.out).mono ?_); rintro e w19 ⟨rfl, hb⟩; refine ⟨_, rfl, ?_⟩; have n0_ := Aside0.mk (below_step bz_ hb); clear HB; have HB := n0_; clear n0_; (try clear hb); (try clear hb2); (try clear hk); (try clear hi)))
          go_ret3
          exact ⟨xz_, bz_⟩
        · rw [if_neg c18] at H
          have c18b0 : decide ((wrap64 (t115)) < (t106.size : Int)) = false := decide_eq_false c18
          clear c18
          simp only [Option.some.injEq, Prod.mk.injEq] at H
          obtain ⟨rfl, rfl, rfl⟩ := H
          go_wp2_with (first | ((with_reducible refine gate_callee (f := 23) rfl ?_); refine goesM_ (some 39) Tryd.func23 #[.string t109] ?_; (with_reducible refine (code_Undec.calls kj5 t109 t115 t116 _ A12.out).mono ?_); rintro e w20 ⟨rfl, hb⟩; refine ⟨_, rfl, ?_⟩; have n0_ := Aside0.mk (below_step bz_ hb); clear HB; have HB := n0_; clear n0_; (try clear hb); (try clear hb2); (try clear hk); (try clear hi)))
          go_ret3
          exact ⟨xz_, bz_⟩
     · rw [if_neg c13] at H
       have c13b0 : (t116 == 0) = false := beq_eq_false_iff_ne.mpr c13
       have c13b1 : (t116 != 0) = true := bne_iff_ne.mpr c13
       simp only [Option.some.injEq, Prod.mk.injEq] at H
       obtain ⟨rfl, rfl, rfl⟩ := H
       go_wp2_with (first | ((with_reducible refine gate_callee (f := 23) rfl ?_); refine goesM_ (some 39) Tryd.func23 #[.string t109] ?_; (with_reducible refine (code_Undec.calls kj5 t109 t115 t116 _ A12.out).mono ?_); rintro e w21 ⟨rfl, hb⟩; refine ⟨_, rfl, ?_⟩; have n0_ := Aside0.mk (below_step bz_ hb); clear HB; have HB := n0_; clear n0_; (try clear hb); (try clear hb2); (try clear hk); (try clear hi)))
       go_ret3
       exact ⟨xz_, bz_⟩

/-! ### ob_Raw: function 27 (given by hand) -/
/-- The words of kinds. -/
def ob_Raw.words : List ByteArray := [⟨#[]⟩, ⟨#[98, 108, 111, 98]⟩, ⟨#[116, 114, 101, 101]⟩, ⟨#[99, 111, 109, 109, 105, 116]⟩, ⟨#[116, 97, 103]⟩]
def ob_Raw.f (k : Nat) (a0 : Int) (a1 : ByteArray) : Option (ByteArray × Int) := if a0 < 1 then some (⟨#[]⟩, 70) else if a0 > 4 then some (⟨#[]⟩, 70) else if (a1.size : Int) > 262144 then some (⟨#[]⟩, 3) else (code_Dec.f k (IntKind.u64.wrap (a1.size : Int))).bind fun d => if d.size ≤ 1000 then some (rdOf ByteArray.empty ob_Raw.words a0 ++ ⟨#[32]⟩ ++ d ++ ⟨#[0]⟩ ++ a1, 0) else none
theorem ob_Raw.mono : ∀ a0 a1 k, LeO (ob_Raw.f k a0 a1) (ob_Raw.f (k + 1) a0 a1) := by
 intro a0 a1 k
 unfold ob_Raw.f
 refine LeO.ite (LeO.refl _) (LeO.ite (LeO.refl _) (LeO.ite (LeO.refl _) (LeO.bind (code_Dec.mono _ _) (fun _ => LeO.refl _))))
theorem ob_Raw.kinds : ob_kinds.f = some ob_Raw.words := rfl
theorem ob_Raw.word_size (a0 : Int) : (rdOf ByteArray.empty ob_Raw.words a0).size ≤ 6 := by
 unfold rdOf
 rcases h : a0.toNat with _ | _ | _ | _ | _ | n <;> simp [ob_Raw.words, h, ByteArray.size]
set_option maxHeartbeats 4000000 in
set_option maxRecDepth 100000 in
theorem ob_Raw.calls (k : Nat) (a0 : Int) (a1 : ByteArray) (r1 : ByteArray) (r2 : Int) (w : World) (h : ob_Raw.f k a0 a1 = some (r1, r2)) :
 Calls Tryd.prog 27 #[.int .i64 a0, .string a1] w fun e w' => e = .returned (.tuple #[.string r1, .int .i64 r2]) ∧ Below w.heap.size w w' := by
 unfold ob_Raw.f at h
 go_enter Tryd.func27, Tryd.ntmps27
 by_cases c1 : a0 < 1
 · rw [if_pos c1] at h
   have h' := Option.some.inj h
   simp only [Prod.mk.injEq] at h'
   obtain ⟨rfl, rfl⟩ := h'
   have c1b : decide (a0 < 1) = true := decide_eq_true c1
   go_wp2_with fail
   go_ret2
   exact ⟨rfl, Below.refl _ _⟩
 ·
  rw [if_neg c1] at h
  have c1b : decide (a0 < 1) = false := decide_eq_false c1
  by_cases c4 : a0 > 4
  · rw [if_pos c4] at h
    have h' := Option.some.inj h
    simp only [Prod.mk.injEq] at h'
    obtain ⟨rfl, rfl⟩ := h'
    have c4b : decide (4 < a0) = true := decide_eq_true c4
    go_wp2_with fail
    go_ret2
    exact ⟨rfl, Below.refl _ _⟩
  ·
   rw [if_neg c4] at h
   have c4b : decide (4 < a0) = false := decide_eq_false c4
   by_cases c5 : (a1.size : Int) > 262144
   · rw [if_pos c5] at h
     have h' := Option.some.inj h
     simp only [Prod.mk.injEq] at h'
     obtain ⟨rfl, rfl⟩ := h'
     have c5b : decide (262144 < (a1.size : Int)) = true := decide_eq_true c5
     go_wp2_with fail
     go_ret2
     exact ⟨rfl, Below.refl _ _⟩
   ·
    rw [if_neg c5] at h
    obtain ⟨d, hd, h⟩ := Option.bind_eq_some_iff.mp h
    have HD := Aside0.mk hd
    by_cases c6 : d.size ≤ 1000
    ·
     rw [if_pos c6] at h
     have h' := Option.some.inj h
     simp only [Prod.mk.injEq] at h'
     obtain ⟨rfl, rfl⟩ := h'
     clear h hd
     have c5b : decide (262144 < (a1.size : Int)) = false := decide_eq_false c5
     have c5n : a1.size ≤ 262144 := by omega
     have p0 : 0 ≤ a0 := by omega
     have q0 : a0 < (ob_Raw.words.length : Int) := by simp [ob_Raw.words]; omega
     have hw6 := ob_Raw.word_size a0
     go_upto_region 5 with (fail)
     clear c1 c4 c5 c1b c4b c5b
     generalize hW : rdOf ByteArray.empty ob_Raw.words a0 = W0 at *
     have HW := Aside0.mk hW
     clear hW h
     have s1 : (9223372036854775807 < W0.size + 1) = False := eq_false (by omega)
     have s2 : (9223372036854775807 < W0.size + 1 + d.size) = False := eq_false (by omega)
     have s3 : (9223372036854775807 < W0.size + 1 + d.size + 1) = False := eq_false (by omega)
     have s4 : (9223372036854775807 < W0.size + 1 + d.size + 1 + a1.size) = False := eq_false (by omega)
     go_cut [4, 5] (fun v4 v5 wc => v4 = .string (W0 ++ ⟨#[32]⟩ ++ d ++ ⟨#[0]⟩ ++ a1) ∧ v5 = .int .i64 0 ∧ Aside0 (Below w.heap.size w wc))
     case first J1 K1 hJ1 hK1 =>
      go_region_law (first | (go_simp; go_at_call 42; go_must (refine (ob_kinds.calls ob_Raw.words _ ob_Raw.kinds).mono ?_; rintro e w1 ⟨v1, rfl, ho, hb⟩; have HB := Aside0.mk hb; have HO := Aside0.mk ho; obtain ⟨A1, c1, rfl⟩ := Kd.R_slice ho; obtain ⟨ad, e1, hx⟩ := Kd.at_string (Kd.R_reads' HO.out).2.2 a0 p0 q0; cases e1; rw [HW.out] at hx; clear hb ho)) | (go_simp; go_at_call 34; go_must (refine (code_Dec.calls k (IntKind.u64.wrap (a1.size : Int)) d _ HD.out).mono ?_; rintro e w2 ⟨rfl, ⟨nd, rfl⟩⟩)))
      all_goals (refine hK1 _ _ ?_; go_meet; (case rel => exact ⟨rfl, rfl, ⟨pw_below_drewN ((pw_below_drewN (Below.refl w.heap.size w) 1).trans HB.out) nd⟩⟩))
     case rest =>
      obtain ⟨rfl, rfl, HB⟩ := hcut
      go_wp2_with fail
      go_ret2
      rw [HW.out]
      exact ⟨rfl, HB.out⟩
    · rw [if_neg c6] at h
      cases h


/-! ### bits_RotateLeft32: function 99 -/
def bits_RotateLeft32.f (a0 : Int) (a1 : Int) : Option (Int) := if 0 ≤ (Go.bits .and .u64 (IntKind.u64.wrap (a1)) 31) then (if 0 ≤ (IntKind.u64.wrap (32 - (Go.bits .and .u64 (IntKind.u64.wrap (a1)) 31))) then (some (Go.bits .or .u32 (shl .u32 a0 (Go.bits .and .u64 (IntKind.u64.wrap (a1)) 31)) (shr .u32 a0 (IntKind.u64.wrap (32 - (Go.bits .and .u64 (IntKind.u64.wrap (a1)) 31)))))) else (none)) else (none)
set_option maxHeartbeats 8000000 in
set_option maxRecDepth 100000 in
theorem bits_RotateLeft32.calls (a0 : Int) (a1 : Int) (r : Int) (w : World) (h : bits_RotateLeft32.f a0 a1 = some r) :
 Calls Tryd.prog 99 #[.int .u32 a0, .int .i64 a1] w fun e w' => e = .returned (.int .u32 r) ∧ Drawn0 w w' := by
 have H : (if 0 ≤ (Go.bits .and .u64 (IntKind.u64.wrap (a1)) 31) then (if 0 ≤ (IntKind.u64.wrap (32 - (Go.bits .and .u64 (IntKind.u64.wrap (a1)) 31))) then (some (Go.bits .or .u32 (shl .u32 a0 (Go.bits .and .u64 (IntKind.u64.wrap (a1)) 31)) (shr .u32 a0 (IntKind.u64.wrap (32 - (Go.bits .and .u64 (IntKind.u64.wrap (a1)) 31)))))) else (none)) else (none)) = some r := h
 clear h
 obtain ⟨ji3, hji3⟩ : ∃ j_ : Int, (Go.bits .and .u64 (IntKind.u64.wrap (a1)) 31) = j_ := ⟨_, rfl⟩
 replace H : (if 0 ≤ (ji3) then (if 0 ≤ (IntKind.u64.wrap (32 - (ji3))) then (some (Go.bits .or .u32 (shl .u32 a0 (ji3)) (shr .u32 a0 (IntKind.u64.wrap (32 - (ji3)))))) else (none)) else (none)) = some r := by first | (rw [hji3] at H; exact H) | (simp only [hji3] at H ⊢; exact H)
 by_cases c4 : 0 ≤ (ji3)
 ·
  rw [if_pos c4] at H
  have c4b0 := eq_true c4
  have c4b1 : decide (0 ≤ (ji3)) = true := decide_eq_true c4
  clear c4
  obtain ⟨ji5, hji5⟩ : ∃ j_ : Int, (shl .u32 a0 (ji3)) = j_ := ⟨_, rfl⟩
  replace H : (if 0 ≤ (IntKind.u64.wrap (32 - (ji3))) then (some (Go.bits .or .u32 (ji5) (shr .u32 a0 (IntKind.u64.wrap (32 - (ji3)))))) else (none)) = some r := by first | (rw [hji5] at H; exact H) | (simp only [hji5] at H ⊢; exact H)
  have hji5_ : (IntKind.u32.wrap (a0 * 2 ^ min (ji3).toNat 32)) = ji5 := hji5
  have hji5z : (ji3) ≤ 32 → (IntKind.u32.wrap (a0 * 2 ^ (ji3).toNat)) = ji5 := shl_small hji5
  obtain ⟨ji6, hji6⟩ : ∃ j_ : Int, (IntKind.u64.wrap (32 - (ji3))) = j_ := ⟨_, rfl⟩
  replace H : (if 0 ≤ (ji6) then (some (Go.bits .or .u32 (ji5) (shr .u32 a0 (ji6)))) else (none)) = some r := by first | (rw [hji6] at H; exact H) | (simp only [hji6] at H ⊢; exact H)
  by_cases c7 : 0 ≤ (ji6)
  · rw [if_pos c7] at H
    have c7b0 := eq_true c7
    have c7b1 : decide (0 ≤ (ji6)) = true := decide_eq_true c7
    clear c7
    obtain ⟨ji8, hji8⟩ : ∃ j_ : Int, (shr .u32 a0 (ji6)) = j_ := ⟨_, rfl⟩
    replace H : (some (Go.bits .or .u32 (ji5) (ji8))) = some r := by first | (rw [hji8] at H; exact H) | (simp only [hji8] at H ⊢; exact H)
    have hji8_ : (a0 / 2 ^ min (ji6).toNat 32) = ji8 := hji8
    have hji8z : (ji6) ≤ 32 → (a0 / 2 ^ (ji6).toNat) = ji8 := shr_small hji8
    obtain rfl := Option.some.inj H
    go_enter Tryd.func99, Tryd.ntmps99
    go_wp2
    go_ret
    exact ⟨by first | rfl | (simp; done) | (simp only [← hji3, ← hji5, ← hji6, ← hji8] <;> (first | rfl | simp)) | (simp [*]; done), dz_⟩
  · rw [if_neg c7] at H
    exact absurd H (by simp)
 · rw [if_neg c4] at H
   exact absurd H (by simp)

end Go.Proofs.YtnapcfpecpgdbaaDoor.M
