/- The program's functions as plain functions, and that each call comes to what these tell; written by a program of this session, some contracts by hand. Conditions: none. -/
import Derived.Test.YtnapcfpecpgdbaaMx0
import Derived.Test.YtnapcfpecpgdbaaMx1
namespace Go.Proofs.Ytnapcfpecpgdbaa.M
open Go.RowKit Go.Proofs.YtnapcfpecpgdbaaW.PrintWords Go.Proofs.YtnapcfpecpgdbaaW.PrintLast Go.Proofs.YtnapcfpecpgdbaaW.PrintMore
attribute [local go_sem] max2_int min2_int max_two min_two max_three min_three max_four min_four   -- for this text's walks alone
set_option linter.unusedVariables false
set_option linter.unusedSimpArgs false

/-! ### code_Undec: function 26 (given by hand) -/
/-- The number of digits, one by one. -/
def code_Undec.go : List Int → Int → Option Int
  | [], n => some n
  | c :: cs, n => if c < 48 then none else if 57 < c then none else if (18446744073709551615 - (c - 48)) / 10 < n then none else code_Undec.go cs (n * 10 + (c - 48))
theorem code_Undec.wrap {x : Int} (h0 : 0 ≤ x) (h1 : x ≤ 18446744073709551615) : IntKind.u64.wrap x = x := by
  have hb : IntKind.u64.bits = 64 := rfl
  simp only [IntKind.wrap, hb]
  exact Int.emod_eq_of_lt h0 (by omega)
theorem code_Undec.ne {a : ByteArray} (z : ¬ a.size = 0) : a.toList.isEmpty = false := by
  rw [Bool.eq_false_iff]
  intro h
  rw [List.isEmpty_iff] at h
  have h2 : a.toList.length = a.size := by rw [Go.ByteArray.toList_eq, Array.length_toList]; rfl
  rw [h] at h2
  exact z h2.symm
theorem code_Undec.unlike {a b : ByteArray} (h : ¬ a = b) : (a.toList == b.toList) = false := by
  rw [Bool.eq_false_iff]
  intro h1
  have h2 := eq_of_beq h1
  rw [Go.ByteArray.toList_eq, Go.ByteArray.toList_eq] at h2
  exact h (ByteArray.ext (Array.ext' h2))
def code_Undec.f (k : Nat) (a0 : ByteArray) : Option (Int × Int) := if a0.size ≤ 70368744177664 then (match code_Undec.go (bytesOf a0) 0 with
  | none => some (0, 6)
  | some n => if a0.size = 0 then some (0, 6) else (code_Dec.f k n).bind fun d => if a0 = d then some (n, 0) else some (0, 6)) else none
theorem code_Undec.mono : ∀ a0 k, LeO (code_Undec.f k a0) (code_Undec.f (k + 1) a0) := by
  intro a0 k
  unfold code_Undec.f
  refine LeO.ite ?_ (LeO.none _)
  cases code_Undec.go (bytesOf a0) 0 with
  | none => exact LeO.refl _
  | some n => exact LeO.ite (LeO.refl _) (LeO.bind (code_Dec.mono _ _) (fun _ => LeO.refl _))
set_option maxHeartbeats 4000000 in
set_option maxRecDepth 100000 in
theorem code_Undec.calls (k : Nat) (a0 : ByteArray) (r1 : Int) (r2 : Int) (w : World) (h : code_Undec.f k a0 = some (r1, r2)) :
    Calls Try.prog 26 #[.string a0] w fun e w' => e = .returned (.tuple #[.int .u64 r1, .int .i64 r2]) ∧ Below w.heap.size w w' := by
  unfold code_Undec.f at h
  by_cases hs : a0.size ≤ 70368744177664
  · rw [if_pos hs] at h
    have H := Aside0.mk h
    have kb := fun W => print_bytes (P := Try.prog) 9 31 5 Try.underlying9 Try.underlying31 Try.underlying5 a0 W
    have RB := Aside0.mk (bytes_reads w 5 a0 (by omega))
    have BB := Aside0.mk (bytes_below (Below.refl w.heap.size w) (Nat.le_refl _) 5 a0)
    clear h
    go_enter Try.func26, Try.ntmps26
    go_wp2_with fail
    clear kb
    generalize Lib.bytesWorld w 5 a0 = W1 at *
    go_loop [4, 11] (fun u4 u11 => ∃ (j : Nat) (n : Int), u4 = .int .u64 n ∧ u11 = .int .i64 j ∧ j ≤ a0.size ∧ 0 ≤ n ∧ n ≤ 18446744073709551615 ∧ Aside0 (code_Undec.go (bytesOf a0) 0 = code_Undec.go ((bytesOf a0).drop j) n)) (fun _ u11 => a0.size - (intOf u11).toNat)
    case atStart => exact ⟨0, 0, rfl, rfl, by omega, by omega, by omega, ⟨rfl⟩⟩
    case round =>
      obtain ⟨j, n, rfl, rfl, hj, hn0, hn1, HG⟩ := hrel
      by_cases hlt : j < a0.size
      · have hltI : (j : Int) < (a0.size : Int) := by omega
        obtain ⟨ad, ead, hcell⟩ := RB.out.2.2 (by omega)
        cases ead
        have hc := hcell j hlt
        rw [add_plain] at hc
        clear hcell
        have hlen : j < (bytesOf a0).length := by rw [bytesOf_length]; exact hlt
        have hdrop : (bytesOf a0).drop j = (bytesOf a0).getD j 0 :: (bytesOf a0).drop (j + 1) := by
          rw [List.getD_eq_getElem?_getD, List.getElem?_eq_getElem hlen]
          exact List.drop_eq_getElem_cons hlen
        have hrange : 0 ≤ (bytesOf a0).getD j 0 ∧ (bytesOf a0).getD j 0 ≤ 255 := by
          rw [List.getD_eq_getElem?_getD, List.getElem?_eq_getElem hlen]
          simp only [bytesOf, List.getElem_map, Option.getD_some]
          have := (a0.data.toList[j]'(by simpa [bytesOf] using hlen)).toNat_lt
          omega
        rw [hdrop] at HG
        generalize (bytesOf a0).getD j 0 = c at *
        clear hlen hdrop
        have wc0 : IntKind.u64.wrap c = c := code_Undec.wrap (by omega) (by omega)
        by_cases c1 : c < 48
        · have c1b : decide (c < 48) = true := decide_eq_true c1
          have e0 : code_Undec.go (bytesOf a0) 0 = none := by rw [HG.out, code_Undec.go, if_pos c1]
          have e1 := H.out
          rw [e0] at e1
          simp only [Option.some.injEq, Prod.mk.injEq] at e1
          obtain ⟨rfl, rfl⟩ := e1
          clear H e0 HG
          go_wp2_with fail
          go_ret2
          exact ⟨rfl, BB.out⟩
        · have c1b : decide (c < 48) = false := decide_eq_false c1
          have wd0 : IntKind.u64.wrap (c - 48) = c - 48 := code_Undec.wrap (by omega) (by omega)
          by_cases c2 : 57 < c
          · have c2b : decide (57 < c) = true := decide_eq_true c2
            have e0 : code_Undec.go (bytesOf a0) 0 = none := by rw [HG.out, code_Undec.go, if_neg c1, if_pos c2]
            have e1 := H.out
            rw [e0] at e1
            simp only [Option.some.injEq, Prod.mk.injEq] at e1
            obtain ⟨rfl, rfl⟩ := e1
            clear H e0 HG
            go_wp2_with fail
            go_ret2
            exact ⟨rfl, BB.out⟩
          · have c2b : decide (57 < c) = false := decide_eq_false c2
            have wd1 : IntKind.u64.wrap (18446744073709551615 - (c - 48)) = 18446744073709551615 - (c - 48) := code_Undec.wrap (by omega) (by omega)
            have tq : Int.tdiv (18446744073709551615 - (c - 48)) 10 = (18446744073709551615 - (c - 48)) / 10 := Int.tdiv_eq_ediv_of_nonneg (by omega)
            by_cases c3 : (18446744073709551615 - (c - 48)) / 10 < n
            · have c3b : decide ((18446744073709551615 - (c - 48)) / 10 < n) = true := decide_eq_true c3
              have e0 : code_Undec.go (bytesOf a0) 0 = none := by rw [HG.out, code_Undec.go, if_neg c1, if_neg c2, if_pos c3]
              have e1 := H.out
              rw [e0] at e1
              simp only [Option.some.injEq, Prod.mk.injEq] at e1
              obtain ⟨rfl, rfl⟩ := e1
              clear H e0 HG
              go_wp2_with fail
              go_ret2
              exact ⟨rfl, BB.out⟩
            · have c3b : decide ((18446744073709551615 - (c - 48)) / 10 < n) = false := decide_eq_false c3
              have wn0 : IntKind.u64.wrap (n * 10) = n * 10 := code_Undec.wrap (by omega) (by omega)
              have wn1 : IntKind.u64.wrap (n * 10 + (c - 48)) = n * 10 + (c - 48) := code_Undec.wrap (by omega) (by omega)
              have HG2 : Aside0 (code_Undec.go (bytesOf a0) 0 = code_Undec.go ((bytesOf a0).drop (j + 1)) (n * 10 + (c - 48))) := ⟨by rw [HG.out, code_Undec.go, if_neg c1, if_neg c2, if_neg c3]⟩
              clear HG
              go_wp2_with fail
              go_round
              case rel => exact ⟨j + 1, _, rfl, rfl, by omega, by omega, by omega, HG2⟩
              case measure =>
                simp [intOf]
                omega
      · obtain rfl : j = a0.size := by omega
        have e0 : code_Undec.go (bytesOf a0) 0 = some n := by rw [HG.out, List.drop_eq_nil_of_le (by rw [bytesOf_length]; exact Nat.le_refl _), code_Undec.go]
        have e1 := H.out
        rw [e0] at e1
        clear H HG e0
        simp only at e1
        by_cases z : a0.size = 0
        · rw [if_pos z] at e1
          simp only [Option.some.injEq, Prod.mk.injEq] at e1
          obtain ⟨rfl, rfl⟩ := e1
          have hz : a0 = ⟨#[]⟩ := by
            apply ByteArray.ext
            exact Array.eq_empty_of_size_eq_zero z
          subst hz
          go_wp2_with fail
          go_ret2
          exact ⟨rfl, BB.out⟩
        · rw [if_neg z] at e1
          obtain ⟨d, hd, e1⟩ := Option.bind_eq_some_iff.mp e1
          have hne : a0.toList.isEmpty = false := code_Undec.ne z
          by_cases c4 : a0 = d
          · rw [if_pos c4] at e1
            simp only [Option.some.injEq, Prod.mk.injEq] at e1
            obtain ⟨rfl, rfl⟩ := e1
            subst c4
            go_wp2_with (go_at_call 23; refine (code_Dec.calls k n _ _ hd).mono ?_; rintro e w2 ⟨rfl, ⟨nd, rfl⟩⟩)
            go_ret2
            exact ⟨rfl, pw_below_drewN BB.out nd⟩
          · rw [if_neg c4] at e1
            simp only [Option.some.injEq, Prod.mk.injEq] at e1
            obtain ⟨rfl, rfl⟩ := e1
            have c4d : (a0.toList == d.toList) = false := code_Undec.unlike c4
            go_wp2_with (go_at_call 23; refine (code_Dec.calls k n _ _ hd).mono ?_; rintro e w2 ⟨rfl, ⟨nd, rfl⟩⟩)
            go_ret2
            exact ⟨rfl, pw_below_drewN BB.out nd⟩
  · rw [if_neg hs] at h
    cases h


/-! ### object_Open: function 11 -/
def object_Open.j0 : Nat → ByteArray → ByteArray → Int → Bool → Option (Int × ByteArray × Int)
  | 0, _, _, _, _ => none
  | k + 1, x6, x9, x11, x34 => if x34 = true then (some (0, (⟨#[]⟩ : ByteArray), 6)) else (if x11 < 1 then (some (0, (⟨#[]⟩ : ByteArray), 70)) else ((code_Undec.f k x9).bind fun bt115 => (if bt115.2 = 0 then (if bt115.1 > 262144 then (some (0, (⟨#[]⟩ : ByteArray), 3)) else (if (wrap64 (bt115.1)) > (x6.size : Int) then (some (0, (⟨#[]⟩ : ByteArray), 4)) else (if (wrap64 (bt115.1)) < (x6.size : Int) then (some (0, (⟨#[]⟩ : ByteArray), 5)) else (some (x11, x6, 0))))) else (some (0, (⟨#[]⟩ : ByteArray), bt115.2)))))
def object_Open.f (k : Nat) (a0 : ByteArray) : Option (Int × ByteArray × Int) := (strings_Cut.f a0 (⟨#[0]⟩ : ByteArray)).bind fun bt105 => ((strings_Cut.f bt105.1 (⟨#[32]⟩ : ByteArray)).bind fun bt108 => ((object_kinds.f).bind fun t111 => ((slices_Index_string_string.f k t111 bt108.1).bind fun t114 => (if bt105.2.2 = true then (object_Open.j0 k bt105.2.1 bt108.2.1 t114 (!bt108.2.2)) else (object_Open.j0 k bt105.2.1 bt108.2.1 t114 true)))))
theorem object_Open.mono_l : ∀ k, (∀ y0 y1 y2 y3, LeO (object_Open.j0 k y0 y1 y2 y3) (object_Open.j0 (k + 1) y0 y1 y2 y3))
  | 0 => fun _ _ _ _ r h => by simp [object_Open.j0] at h
  | k + 1 => by
    have ih0 := object_Open.mono_l k
    · intro y0 y1 y2 y3
      unfold object_Open.j0
      repeat' first
      | (with_reducible exact ih0 _ _ _ _)
      | (with_reducible exact code_Undec.mono _ _)
      | (with_reducible exact slices_Index_string_string.mono _ _ _)
      | (with_reducible exact LeO.refl _)
      | (with_reducible exact LeO.none _)
      | (with_reducible refine LeO.ite ?_ ?_)
      | (with_reducible refine LeO.bind ?_ (fun _ => ?_))
      | exact ih0 _ _ _ _
      | exact code_Undec.mono _ _
      | exact slices_Index_string_string.mono _ _ _
      | exact LeO.none _
      | refine LeO.ite ?_ ?_
      | refine LeO.bind ?_ (fun _ => ?_)
theorem object_Open.mono : ∀ a0 k, LeO (object_Open.f k a0) (object_Open.f (k + 1) a0) := by
  intro a0 k
  have ih0 := object_Open.mono_l k
  unfold object_Open.f
  repeat' first
      | (with_reducible exact ih0 _ _ _ _)
      | (with_reducible exact code_Undec.mono _ _)
      | (with_reducible exact slices_Index_string_string.mono _ _ _)
      | (with_reducible exact LeO.refl _)
      | (with_reducible exact LeO.none _)
      | (with_reducible refine LeO.ite ?_ ?_)
      | (with_reducible refine LeO.bind ?_ (fun _ => ?_))
      | exact ih0 _ _ _ _
      | exact code_Undec.mono _ _
      | exact slices_Index_string_string.mono _ _ _
      | exact LeO.none _
      | refine LeO.ite ?_ ?_
      | refine LeO.bind ?_ (fun _ => ?_)
set_option maxHeartbeats 8000000 in
set_option maxRecDepth 100000 in
theorem object_Open.calls (k : Nat) (a0 : ByteArray) (r1 : Int) (r2 : ByteArray) (r3 : Int) (w : World) (h : object_Open.f k a0 = some (r1, r2, r3)) :
    Calls Try.prog 11 #[.string a0] w fun e w' => e = .returned (.tuple #[.int .i64 r1, .string r2, .int .i64 r3]) ∧ Below w.heap.size w w' := by
  have HB := Aside0.mk (Below.refl w.heap.size w)
  have H : ((strings_Cut.f a0 (⟨#[0]⟩ : ByteArray)).bind fun bt105 => ((strings_Cut.f bt105.1 (⟨#[32]⟩ : ByteArray)).bind fun bt108 => ((object_kinds.f).bind fun t111 => ((slices_Index_string_string.f k t111 bt108.1).bind fun t114 => (if bt105.2.2 = true then (object_Open.j0 k bt105.2.1 bt108.2.1 t114 (!bt108.2.2)) else (object_Open.j0 k bt105.2.1 bt108.2.1 t114 true)))))) = some (r1, r2, r3) := h
  clear h
  replace H := Option.bind_eq_some_iff.mp H
  obtain ⟨⟨t105, t106, t107⟩, A20, H⟩ := H
  replace H : ((strings_Cut.f t105 (⟨#[32]⟩ : ByteArray)).bind fun bt108 => ((object_kinds.f).bind fun t111 => ((slices_Index_string_string.f k t111 bt108.1).bind fun t114 => (if t107 = true then (object_Open.j0 k t106 bt108.2.1 t114 (!bt108.2.2)) else (object_Open.j0 k t106 bt108.2.1 t114 true))))) = some (r1, r2, r3) := H
  have A2 := Aside0.mk A20
  clear A20
  replace H := Option.bind_eq_some_iff.mp H
  obtain ⟨⟨t108, t109, t110⟩, A30, H⟩ := H
  replace H : ((object_kinds.f).bind fun t111 => ((slices_Index_string_string.f k t111 t108).bind fun t114 => (if t107 = true then (object_Open.j0 k t106 t109 t114 (!t110)) else (object_Open.j0 k t106 t109 t114 true)))) = some (r1, r2, r3) := H
  have A3 := Aside0.mk A30
  clear A30
  replace H := Option.bind_eq_some_iff.mp H
  obtain ⟨t111, A40, H⟩ := H
  replace H : ((slices_Index_string_string.f k t111 t108).bind fun t114 => (if t107 = true then (object_Open.j0 k t106 t109 t114 (!t110)) else (object_Open.j0 k t106 t109 t114 true))) = some (r1, r2, r3) := H
  have A4 := Aside0.mk A40
  clear A40
  replace H := Option.bind_eq_some_iff.mp H
  obtain ⟨t114, A50, H⟩ := H
  replace H : (if t107 = true then (object_Open.j0 k t106 t109 t114 (!t110)) else (object_Open.j0 k t106 t109 t114 true)) = some (r1, r2, r3) := H
  have A5 := Aside0.mk A50
  clear A50
  have HC6 := Aside0.mk H
  clear H
  go_enter Try.func11, Try.ntmps11
  go_upto_region 4 with (first | ((with_reducible refine gate_callee (f := 24) rfl ?_); refine goesL_ (some 16) rfl rfl Try.func24 (by kernel_rfl) rfl #[.string a0, .string (⟨#[0]⟩ : ByteArray)] rfl (by (try simp only [List.map_toArray, List.map_cons, List.map_nil]); first | done | rfl | (simp only [List.length_drop, List.length_take]; rfl)) ?_; (with_reducible refine (strings_Cut.calls a0 (⟨#[0]⟩ : ByteArray) t105 t106 t107 _ A2.out).mono ?_); rintro e w' ⟨rfl, ⟨nd, rfl⟩⟩; refine ⟨_, rfl, ?_⟩) | ((with_reducible refine gate_callee (f := 24) rfl ?_); refine goesL_ (some 22) rfl rfl Try.func24 (by kernel_rfl) rfl #[.string t105, .string (⟨#[32]⟩ : ByteArray)] rfl (by (try simp only [List.map_toArray, List.map_cons, List.map_nil]); first | done | rfl | (simp only [List.length_drop, List.length_take]; rfl)) ?_; (with_reducible refine (strings_Cut.calls t105 (⟨#[32]⟩ : ByteArray) t108 t109 t110 _ A3.out).mono ?_); rintro e w' ⟨rfl, ⟨nd, rfl⟩⟩; refine ⟨_, rfl, ?_⟩) | ((with_reducible refine gate_callee (f := 22) rfl ?_); refine goesL_ (some 26) rfl rfl Try.func22 (by kernel_rfl) rfl #[] rfl (by (try simp only [List.map_toArray, List.map_cons, List.map_nil]); first | done | rfl | (simp only [List.length_drop, List.length_take]; rfl)) ?_; (with_reducible refine (object_kinds.calls  t111 _ A4.out).mono ?_); rintro e w7 ⟨v112, rfl, ho0, hb⟩; refine ⟨_, rfl, ?_⟩; have n0_ := Aside0.mk (Kd.R_lower ho0 (below_size (by repeat (first | (with_reducible first | exact HB.out | apply below_alloc | apply pw_below_drewN | apply below_drew1) | exact HB.out)))); have n1_ := Aside0.mk (below_step (by repeat (first | (with_reducible first | exact HB.out | apply below_alloc | apply pw_below_drewN | apply below_drew1) | exact HB.out)) hb); clear HB; have HO113 := n0_; have HB := n1_; clear n0_ n1_; (try clear hb); (try clear hb2); (try clear hk); (try clear hi); (try clear ho0); obtain ⟨Ao8, co8, eo8⟩ := Kd.R_slice HO113.out; subst eo8) | ((with_reducible refine gate_callee (f := 25) rfl ?_); refine goesL_ (some 28) rfl rfl Try.func25 (by kernel_rfl) rfl #[.slice Ao8 t111.length co8, .string t108] rfl (by (try simp only [List.map_toArray, List.map_cons, List.map_nil]); first | done | rfl | (simp only [List.length_drop, List.length_take]; rfl)) ?_; (with_reducible refine (slices_Index_string_string.calls k _ _ t111 t108 t114 _ ?side1 ?side2 A5.out).mono ?_); (case side1 => repeat (first | exact (Kd.R_reads' HO113.out).2.2 | (with_reducible refine Kd.C_alloc ?_ _) | (with_reducible refine Kd.C_drewN ?_ _) | (with_reducible refine Kd.C_drew ?_))); (case side2 => exact (Kd.R_reads' HO113.out).2.1); rintro e w' ⟨rfl, ⟨nd, rfl⟩⟩; refine ⟨_, rfl, ?_⟩))
  (try simp only [Act.put, List.setIfInBounds_toArray, List.set_cons_zero, List.set_cons_succ])
  go_cut [34] (fun v34 wc => ∃ (kq : Nat) (x34_5 : Bool), v34 = .bool x34_5 ∧ Aside0 (object_Open.j0 kq t106 t109 t114 x34_5 = some (r1, r2, r3)) ∧ Aside0 (kq ≤ k) ∧ Aside0 (Below w.heap.size w wc))
  case first =>
    have H := HC6.out
    clear HC6
    by_cases c9 : t107 = true
    · subst c9
      have H1 : (object_Open.j0 k t106 t109 t114 (!t110)) = some (r1, r2, r3) := by rw [if_pos rfl] at H; exact H
      clear H
      have H := H1
      clear H1
      have H' := Aside0.mk H
      clear H
      go_wp2
      go_meet
      case rel => exact ⟨_, (!t110), (by first | rfl | (simp; done) | (simp [*]; done)), H', ⟨by first | omega | exact Nat.le_refl _⟩, ⟨by repeat (first | (with_reducible first | exact HB.out | apply below_alloc | apply pw_below_drewN | apply below_drew1) | exact HB.out)⟩⟩
    · replace c9 := Bool.eq_false_iff.mpr c9
      subst c9
      have H1 : (object_Open.j0 k t106 t109 t114 true) = some (r1, r2, r3) := by rw [if_neg (show ¬ (false = true) by decide)] at H; exact H
      clear H
      have H := H1
      clear H1
      have H' := Aside0.mk H
      clear H
      go_wp2
      go_meet
      case rel => exact ⟨_, (true), (by first | rfl | (simp; done) | (simp [*]; done)), H', ⟨by first | omega | exact Nat.le_refl _⟩, ⟨by repeat (first | (with_reducible first | exact HB.out | apply below_alloc | apply pw_below_drewN | apply below_drew1) | exact HB.out)⟩⟩
  case rest =>
    clear HC6
    try clear c1
    try clear c2
    try clear p2
    try clear c9
    obtain ⟨kq, x34_5, rfl, HA, HJ5, HB⟩ := hcut
    cases kq with
    | zero => exact absurd HA.out (by simp [object_Open.j0])
    | succ kj5 =>
      have H := HA.out
      clear HA
      simp only [object_Open.j0] at H
      by_cases c10 : x34_5 = true
      · subst c10
        have H1 : (some (0, (⟨#[]⟩ : ByteArray), 6)) = some (r1, r2, r3) := by rw [if_pos rfl] at H; exact H
        clear H
        have H := H1
        clear H1
        simp only [Option.some.injEq, Prod.mk.injEq] at H
        obtain ⟨rfl, rfl, rfl⟩ := H
        go_wp2
        go_ret3
        exact ⟨by first | rfl | (simp [errW_none, errW_some] <;> rfl) | (simp [*, errW_none, errW_some] <;> rfl), by repeat (first | (with_reducible first | exact HB.out | apply below_alloc | apply pw_below_drewN | apply below_drew1) | exact HB.out)⟩
      · replace c10 := Bool.eq_false_iff.mpr c10
        subst c10
        have H1 : (if t114 < 1 then (some (0, (⟨#[]⟩ : ByteArray), 70)) else ((code_Undec.f kj5 t109).bind fun bt115 => (if bt115.2 = 0 then (if bt115.1 > 262144 then (some (0, (⟨#[]⟩ : ByteArray), 3)) else (if (wrap64 (bt115.1)) > (t106.size : Int) then (some (0, (⟨#[]⟩ : ByteArray), 4)) else (if (wrap64 (bt115.1)) < (t106.size : Int) then (some (0, (⟨#[]⟩ : ByteArray), 5)) else (some (t114, t106, 0))))) else (some (0, (⟨#[]⟩ : ByteArray), bt115.2))))) = some (r1, r2, r3) := by rw [if_neg (show ¬ (false = true) by decide)] at H; exact H
        clear H
        have H := H1
        clear H1
        by_cases c11 : t114 < 1
        · rw [if_pos c11] at H
          have c11b0 : decide (t114 < 1) = true := decide_eq_true c11
          clear c11
          simp only [Option.some.injEq, Prod.mk.injEq] at H
          obtain ⟨rfl, rfl, rfl⟩ := H
          go_wp2
          go_ret3
          exact ⟨by first | rfl | (simp [errW_none, errW_some] <;> rfl) | (simp [*, errW_none, errW_some] <;> rfl), by repeat (first | (with_reducible first | exact HB.out | apply below_alloc | apply pw_below_drewN | apply below_drew1) | exact HB.out)⟩
        · rw [if_neg c11] at H
          have c11b0 : decide (t114 < 1) = false := decide_eq_false c11
          clear c11
          replace H := Option.bind_eq_some_iff.mp H
          obtain ⟨⟨t115, t116⟩, A120, H⟩ := H
          replace H : (if t116 = 0 then (if t115 > 262144 then (some (0, (⟨#[]⟩ : ByteArray), 3)) else (if (wrap64 (t115)) > (t106.size : Int) then (some (0, (⟨#[]⟩ : ByteArray), 4)) else (if (wrap64 (t115)) < (t106.size : Int) then (some (0, (⟨#[]⟩ : ByteArray), 5)) else (some (t114, t106, 0))))) else (some (0, (⟨#[]⟩ : ByteArray), t116))) = some (r1, r2, r3) := H
          have A12 := Aside0.mk A120
          clear A120
          by_cases c13 : t116 = 0
          · rw [if_pos c13] at H
            have c13b0 : (t116 == 0) = true := beq_iff_eq.mpr c13
            have c13b1 : (t116 != 0) = false := bne_eq_false_iff_eq.mpr c13
            clear c13
            by_cases c14 : t115 > 262144
            · rw [if_pos c14] at H
              have c14b0 : decide (262144 < t115) = true := decide_eq_true c14
              clear c14
              simp only [Option.some.injEq, Prod.mk.injEq] at H
              obtain ⟨rfl, rfl, rfl⟩ := H
              go_wp2_with (first | ((with_reducible refine gate_callee (f := 26) rfl ?_); refine goesL_ (some 39) rfl rfl Try.func26 (by kernel_rfl) rfl #[.string t109] rfl (by (try simp only [List.map_toArray, List.map_cons, List.map_nil]); first | done | rfl | (simp only [List.length_drop, List.length_take]; rfl)) ?_; (with_reducible refine (code_Undec.calls kj5 t109 t115 t116 _ A12.out).mono ?_); rintro e w15 ⟨rfl, hb⟩; refine ⟨_, rfl, ?_⟩; have n0_ := Aside0.mk (below_step (by repeat (first | (with_reducible first | exact HB.out | apply below_alloc | apply pw_below_drewN | apply below_drew1) | exact HB.out)) hb); clear HB; have HB := n0_; clear n0_; (try clear hb); (try clear hb2); (try clear hk); (try clear hi)))
              go_ret3
              exact ⟨by first | rfl | (simp [errW_none, errW_some] <;> rfl) | (simp [*, errW_none, errW_some] <;> rfl), by repeat (first | (with_reducible first | exact HB.out | apply below_alloc | apply pw_below_drewN | apply below_drew1) | exact HB.out)⟩
            · rw [if_neg c14] at H
              have c14b0 : decide (262144 < t115) = false := decide_eq_false c14
              clear c14
              by_cases c16 : (wrap64 (t115)) > (t106.size : Int)
              · rw [if_pos c16] at H
                have c16b0 : decide ((t106.size : Int) < (wrap64 (t115))) = true := decide_eq_true c16
                clear c16
                simp only [Option.some.injEq, Prod.mk.injEq] at H
                obtain ⟨rfl, rfl, rfl⟩ := H
                go_wp2_with (first | ((with_reducible refine gate_callee (f := 26) rfl ?_); refine goesL_ (some 39) rfl rfl Try.func26 (by kernel_rfl) rfl #[.string t109] rfl (by (try simp only [List.map_toArray, List.map_cons, List.map_nil]); first | done | rfl | (simp only [List.length_drop, List.length_take]; rfl)) ?_; (with_reducible refine (code_Undec.calls kj5 t109 t115 t116 _ A12.out).mono ?_); rintro e w17 ⟨rfl, hb⟩; refine ⟨_, rfl, ?_⟩; have n0_ := Aside0.mk (below_step (by repeat (first | (with_reducible first | exact HB.out | apply below_alloc | apply pw_below_drewN | apply below_drew1) | exact HB.out)) hb); clear HB; have HB := n0_; clear n0_; (try clear hb); (try clear hb2); (try clear hk); (try clear hi)))
                go_ret3
                exact ⟨by first | rfl | (simp [errW_none, errW_some] <;> rfl) | (simp [*, errW_none, errW_some] <;> rfl), by repeat (first | (with_reducible first | exact HB.out | apply below_alloc | apply pw_below_drewN | apply below_drew1) | exact HB.out)⟩
              · rw [if_neg c16] at H
                have c16b0 : decide ((t106.size : Int) < (wrap64 (t115))) = false := decide_eq_false c16
                clear c16
                by_cases c18 : (wrap64 (t115)) < (t106.size : Int)
                · rw [if_pos c18] at H
                  have c18b0 : decide ((wrap64 (t115)) < (t106.size : Int)) = true := decide_eq_true c18
                  clear c18
                  simp only [Option.some.injEq, Prod.mk.injEq] at H
                  obtain ⟨rfl, rfl, rfl⟩ := H
                  go_wp2_with (first | ((with_reducible refine gate_callee (f := 26) rfl ?_); refine goesL_ (some 39) rfl rfl Try.func26 (by kernel_rfl) rfl #[.string t109] rfl (by (try simp only [List.map_toArray, List.map_cons, List.map_nil]); first | done | rfl | (simp only [List.length_drop, List.length_take]; rfl)) ?_; (with_reducible refine (code_Undec.calls kj5 t109 t115 t116 _ A12.out).mono ?_); rintro e w19 ⟨rfl, hb⟩; refine ⟨_, rfl, ?_⟩; have n0_ := Aside0.mk (below_step (by repeat (first | (with_reducible first | exact HB.out | apply below_alloc | apply pw_below_drewN | apply below_drew1) | exact HB.out)) hb); clear HB; have HB := n0_; clear n0_; (try clear hb); (try clear hb2); (try clear hk); (try clear hi)))
                  go_ret3
                  exact ⟨by first | rfl | (simp [errW_none, errW_some] <;> rfl) | (simp [*, errW_none, errW_some] <;> rfl), by repeat (first | (with_reducible first | exact HB.out | apply below_alloc | apply pw_below_drewN | apply below_drew1) | exact HB.out)⟩
                · rw [if_neg c18] at H
                  have c18b0 : decide ((wrap64 (t115)) < (t106.size : Int)) = false := decide_eq_false c18
                  clear c18
                  simp only [Option.some.injEq, Prod.mk.injEq] at H
                  obtain ⟨rfl, rfl, rfl⟩ := H
                  go_wp2_with (first | ((with_reducible refine gate_callee (f := 26) rfl ?_); refine goesL_ (some 39) rfl rfl Try.func26 (by kernel_rfl) rfl #[.string t109] rfl (by (try simp only [List.map_toArray, List.map_cons, List.map_nil]); first | done | rfl | (simp only [List.length_drop, List.length_take]; rfl)) ?_; (with_reducible refine (code_Undec.calls kj5 t109 t115 t116 _ A12.out).mono ?_); rintro e w20 ⟨rfl, hb⟩; refine ⟨_, rfl, ?_⟩; have n0_ := Aside0.mk (below_step (by repeat (first | (with_reducible first | exact HB.out | apply below_alloc | apply pw_below_drewN | apply below_drew1) | exact HB.out)) hb); clear HB; have HB := n0_; clear n0_; (try clear hb); (try clear hb2); (try clear hk); (try clear hi)))
                  go_ret3
                  exact ⟨by first | rfl | (simp [errW_none, errW_some] <;> rfl) | (simp [*, errW_none, errW_some] <;> rfl), by repeat (first | (with_reducible first | exact HB.out | apply below_alloc | apply pw_below_drewN | apply below_drew1) | exact HB.out)⟩
          · rw [if_neg c13] at H
            have c13b0 : (t116 == 0) = false := beq_eq_false_iff_ne.mpr c13
            have c13b1 : (t116 != 0) = true := bne_iff_ne.mpr c13
            simp only [Option.some.injEq, Prod.mk.injEq] at H
            obtain ⟨rfl, rfl, rfl⟩ := H
            go_wp2_with (first | ((with_reducible refine gate_callee (f := 26) rfl ?_); refine goesL_ (some 39) rfl rfl Try.func26 (by kernel_rfl) rfl #[.string t109] rfl (by (try simp only [List.map_toArray, List.map_cons, List.map_nil]); first | done | rfl | (simp only [List.length_drop, List.length_take]; rfl)) ?_; (with_reducible refine (code_Undec.calls kj5 t109 t115 t116 _ A12.out).mono ?_); rintro e w21 ⟨rfl, hb⟩; refine ⟨_, rfl, ?_⟩; have n0_ := Aside0.mk (below_step (by repeat (first | (with_reducible first | exact HB.out | apply below_alloc | apply pw_below_drewN | apply below_drew1) | exact HB.out)) hb); clear HB; have HB := n0_; clear n0_; (try clear hb); (try clear hb2); (try clear hk); (try clear hi)))
            go_ret3
            exact ⟨by first | rfl | (simp [errW_none, errW_some] <;> rfl) | (simp [*, errW_none, errW_some] <;> rfl), by repeat (first | (with_reducible first | exact HB.out | apply below_alloc | apply pw_below_drewN | apply below_drew1) | exact HB.out)⟩

/-! ### bits_RotateLeft32: function 71 -/
def bits_RotateLeft32.f (a0 : Int) (a1 : Int) : Option (Int) := if 0 ≤ (Go.bits .and .u64 (IntKind.u64.wrap (a1)) 31) then (if 0 ≤ (IntKind.u64.wrap (32 - (Go.bits .and .u64 (IntKind.u64.wrap (a1)) 31))) then (some (Go.bits .or .u32 (shl .u32 a0 (Go.bits .and .u64 (IntKind.u64.wrap (a1)) 31)) (shr .u32 a0 (IntKind.u64.wrap (32 - (Go.bits .and .u64 (IntKind.u64.wrap (a1)) 31)))))) else (none)) else (none)
set_option maxHeartbeats 8000000 in
set_option maxRecDepth 100000 in
theorem bits_RotateLeft32.calls (a0 : Int) (a1 : Int) (r : Int) (w : World) (h : bits_RotateLeft32.f a0 a1 = some r) :
    Calls Try.prog 71 #[.int .u32 a0, .int .i64 a1] w fun e w' => e = .returned (.int .u32 r) ∧ Drawn0 w w' := by
  have H : (if 0 ≤ (Go.bits .and .u64 (IntKind.u64.wrap (a1)) 31) then (if 0 ≤ (IntKind.u64.wrap (32 - (Go.bits .and .u64 (IntKind.u64.wrap (a1)) 31))) then (some (Go.bits .or .u32 (shl .u32 a0 (Go.bits .and .u64 (IntKind.u64.wrap (a1)) 31)) (shr .u32 a0 (IntKind.u64.wrap (32 - (Go.bits .and .u64 (IntKind.u64.wrap (a1)) 31)))))) else (none)) else (none)) = some r := h
  clear h
  obtain ⟨ji3, hji3⟩ : ∃ j_ : Int, (Go.bits .and .u64 (IntKind.u64.wrap (a1)) 31) = j_ := ⟨_, rfl⟩
  replace H : (if 0 ≤ (ji3) then (if 0 ≤ (IntKind.u64.wrap (32 - (ji3))) then (some (Go.bits .or .u32 (shl .u32 a0 (ji3)) (shr .u32 a0 (IntKind.u64.wrap (32 - (ji3)))))) else (none)) else (none)) = some r := by first | (rw [hji3] at H; exact H) | (simp only [hji3] at H ⊢; exact H)
  by_cases c4 : 0 ≤ (ji3)
  · rw [if_pos c4] at H
    have c4b0 := eq_true c4
    have c4b1 : decide (0 ≤ (ji3)) = true := decide_eq_true c4
    clear c4
    obtain ⟨ji5, hji5⟩ : ∃ j_ : Int, (shl .u32 a0 (ji3)) = j_ := ⟨_, rfl⟩
    replace H : (if 0 ≤ (IntKind.u64.wrap (32 - (ji3))) then (some (Go.bits .or .u32 (ji5) (shr .u32 a0 (IntKind.u64.wrap (32 - (ji3)))))) else (none)) = some r := by first | (rw [hji5] at H; exact H) | (simp only [hji5] at H ⊢; exact H)
    have hji5_ : (IntKind.u32.wrap (a0 * 2 ^ min (ji3).toNat 32)) = ji5 := hji5
    have hji5z : (ji3) ≤ 32 → (IntKind.u32.wrap (a0 * 2 ^ (ji3).toNat)) = ji5 := shl_small hji5
    obtain ⟨ji6, hji6⟩ : ∃ j_ : Int, (IntKind.u64.wrap (32 - (ji3))) = j_ := ⟨_, rfl⟩
    replace H : (if 0 ≤ (ji6) then (some (Go.bits .or .u32 (ji5) (shr .u32 a0 (ji6)))) else (none)) = some r := by first | (rw [hji6] at H; exact H) | (simp only [hji6] at H ⊢; exact H)
    by_cases c7 : 0 ≤ (ji6)
    · rw [if_pos c7] at H
      have c7b0 := eq_true c7
      have c7b1 : decide (0 ≤ (ji6)) = true := decide_eq_true c7
      clear c7
      obtain ⟨ji8, hji8⟩ : ∃ j_ : Int, (shr .u32 a0 (ji6)) = j_ := ⟨_, rfl⟩
      replace H : (some (Go.bits .or .u32 (ji5) (ji8))) = some r := by first | (rw [hji8] at H; exact H) | (simp only [hji8] at H ⊢; exact H)
      have hji8_ : (a0 / 2 ^ min (ji6).toNat 32) = ji8 := hji8
      have hji8z : (ji6) ≤ 32 → (a0 / 2 ^ (ji6).toNat) = ji8 := shr_small hji8
      obtain rfl := Option.some.inj H
      go_enter Try.func71, Try.ntmps71
      go_wp2
      go_ret
      exact ⟨by first | rfl | (simp; done) | (simp only [← hji3, ← hji5, ← hji6, ← hji8] <;> (first | rfl | simp)) | (simp [*]; done), by repeat (first | exact Drawn0.refl _ | apply Drawn0.step)⟩
    · rw [if_neg c7] at H
      exact absurd H (by simp)
  · rw [if_neg c4] at H
    exact absurd H (by simp)

end Go.Proofs.Ytnapcfpecpgdbaa.M
