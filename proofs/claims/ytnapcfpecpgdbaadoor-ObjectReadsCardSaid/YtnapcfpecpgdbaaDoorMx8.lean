/- The program's functions as plain functions, and that each call comes to what these tell; written by a program of this session, some contracts by hand. Conditions: none. -/
import Derived.Test.YtnapcfpecpgdbaaDoorMx0
namespace Go.Proofs.YtnapcfpecpgdbaaDoor.M
open Go.RowKit Go.Proofs.YtnapcfpecpgdbaaDoorW.PrintWords Go.Proofs.YtnapcfpecpgdbaaDoorW.PrintLast Go.Proofs.YtnapcfpecpgdbaaDoorW.PrintMore
attribute [local go_sem] max2_int min2_int max_two min_two max_three min_three max_four min_four   -- for this text's walks alone
set_option linter.unusedVariables false
set_option linter.unusedSimpArgs false

/-! ### code_Dec: function 34 -/
def code_Dec.l0 : Nat → Int → ByteArray → Option (ByteArray)
 | 0, _, _ => none
 | k + 1, x0, x3 => if 0 ≤ (Int.tmod x0 10) then (if (Int.tmod x0 10) ≤ (IntKind.u64.wrap ((Int.tmod x0 10) + 1)) then (if (IntKind.u64.wrap ((Int.tmod x0 10) + 1)) ≤ 16 then (if ((⟨#[48, 49, 50, 51, 52, 53, 54, 55, 56, 57, 97, 98, 99, 100, 101, 102]⟩ : ByteArray).extract ((Int.tmod x0 10) : Int).toNat ((IntKind.u64.wrap ((Int.tmod x0 10) + 1)) : Int).toNat).size + x3.size ≤ 9223372036854775807 then (if (IntKind.u64.wrap (Int.tdiv x0 10)) = 0 then (some (((⟨#[48, 49, 50, 51, 52, 53, 54, 55, 56, 57, 97, 98, 99, 100, 101, 102]⟩ : ByteArray).extract ((Int.tmod x0 10) : Int).toNat ((IntKind.u64.wrap ((Int.tmod x0 10) + 1)) : Int).toNat) ++ x3)) else (code_Dec.l0 k (IntKind.u64.wrap (Int.tdiv x0 10)) (((⟨#[48, 49, 50, 51, 52, 53, 54, 55, 56, 57, 97, 98, 99, 100, 101, 102]⟩ : ByteArray).extract ((Int.tmod x0 10) : Int).toNat ((IntKind.u64.wrap ((Int.tmod x0 10) + 1)) : Int).toNat) ++ x3))) else (none)) else (none)) else (none)) else (none)
def code_Dec.f (k : Nat) (a0 : Int) : Option (ByteArray) := code_Dec.l0 k a0 (⟨#[]⟩ : ByteArray)
theorem code_Dec.mono_l : ∀ k, (∀ y0 y1, LeO (code_Dec.l0 k y0 y1) (code_Dec.l0 (k + 1) y0 y1))
 | 0 => fun _ _ r h => by simp [code_Dec.l0] at h
 | k + 1 => by
  have ih0 := code_Dec.mono_l k
  · intro y0 y1
    unfold code_Dec.l0
    repeat' first
    | (with_reducible exact ih0 _ _)
    | (with_reducible exact LeO.refl _)
    | (with_reducible exact LeO.none _)
    | (with_reducible refine LeO.ite ?_ ?_)
    | (with_reducible refine LeO.bind ?_ (fun _ => ?_))
    | exact ih0 _ _
    | exact LeO.none _
    | refine LeO.ite ?_ ?_
    | refine LeO.bind ?_ (fun _ => ?_)
theorem code_Dec.mono : ∀ a0 k, LeO (code_Dec.f k a0) (code_Dec.f (k + 1) a0) := by
 intro a0 k
 have ih0 := code_Dec.mono_l k
 unfold code_Dec.f
 repeat' first
  | (with_reducible exact ih0 _ _)
  | (with_reducible exact LeO.refl _)
  | (with_reducible exact LeO.none _)
  | (with_reducible refine LeO.ite ?_ ?_)
  | (with_reducible refine LeO.bind ?_ (fun _ => ?_))
  | exact ih0 _ _
  | exact LeO.none _
  | refine LeO.ite ?_ ?_
  | refine LeO.bind ?_ (fun _ => ?_)
set_option maxHeartbeats 8000000 in
set_option maxRecDepth 100000 in
theorem code_Dec.calls (k : Nat) (a0 : Int) (r : ByteArray) (w : World) (h : code_Dec.f k a0 = some r) :
 Calls Tryd.prog 34 #[.int .u64 a0] w fun e w' => e = .returned (.string r) ∧ Drawn0 w w' := by
 have H : (code_Dec.l0 k a0 (⟨#[]⟩ : ByteArray)) = some r := h
 clear h
 have H' := Aside0.mk H
 clear H
 go_enter Tryd.func34, Tryd.ntmps34
 go_wp2
 go_loopg [0, 3] k (fun kq v0 v3 w' => ∃ (x0_1 : Int) (x3_1 : ByteArray), v0 = .int .u64 x0_1 ∧ v3 = .string x3_1 ∧ Aside0 (code_Dec.l0 kq x0_1 x3_1 = some r) ∧ Aside0 (kq ≤ k) ∧ Drawn0 w w')
 case atStart => exact ⟨(a0), ((⟨#[]⟩ : ByteArray)), (by first | rfl | (simp; done) | (simp [*]; done)), (by first | rfl | (simp; done) | (simp [*]; done)), H', ⟨Nat.le_refl _⟩, by repeat (first | exact Drawn0.refl _ | apply Drawn0.step)⟩
 case round =>
  clear H'
  obtain ⟨x0_1, x3_1, rfl, rfl, HA, HK1, ⟨m1, rfl⟩⟩ := hrel
  cases gk with
  | zero => exact absurd HA.out (by simp [code_Dec.l0])
  | succ k1 =>
   have H := HA.out
   clear HA
   simp only [code_Dec.l0] at H
   obtain ⟨ji2, hji2⟩ : ∃ j_ : Int, (Int.tmod x0_1 10) = j_ := ⟨_, rfl⟩
   replace H : (if 0 ≤ (ji2) then (if (ji2) ≤ (IntKind.u64.wrap ((ji2) + 1)) then (if (IntKind.u64.wrap ((ji2) + 1)) ≤ 16 then (if ((⟨#[48, 49, 50, 51, 52, 53, 54, 55, 56, 57, 97, 98, 99, 100, 101, 102]⟩ : ByteArray).extract ((ji2) : Int).toNat ((IntKind.u64.wrap ((ji2) + 1)) : Int).toNat).size + x3_1.size ≤ 9223372036854775807 then (if (IntKind.u64.wrap (Int.tdiv x0_1 10)) = 0 then (some (((⟨#[48, 49, 50, 51, 52, 53, 54, 55, 56, 57, 97, 98, 99, 100, 101, 102]⟩ : ByteArray).extract ((ji2) : Int).toNat ((IntKind.u64.wrap ((ji2) + 1)) : Int).toNat) ++ x3_1)) else (code_Dec.l0 k1 (IntKind.u64.wrap (Int.tdiv x0_1 10)) (((⟨#[48, 49, 50, 51, 52, 53, 54, 55, 56, 57, 97, 98, 99, 100, 101, 102]⟩ : ByteArray).extract ((ji2) : Int).toNat ((IntKind.u64.wrap ((ji2) + 1)) : Int).toNat) ++ x3_1))) else (none)) else (none)) else (none)) else (none)) = some r := by first | (rw [hji2] at H; exact H) | (simp only [hji2] at H ⊢; exact H)
   by_cases c3 : 0 ≤ (ji2)
   ·
    rw [if_pos c3] at H
    have c3b0 := eq_true c3
    have c3b1 : decide (0 ≤ (ji2)) = true := decide_eq_true c3
    clear c3
    by_cases c4 : (ji2) ≤ (IntKind.u64.wrap ((ji2) + 1))
    ·
     rw [if_pos c4] at H
     have c4b0 := eq_true c4
     have c4b1 : decide ((ji2) ≤ (IntKind.u64.wrap ((ji2) + 1))) = true := decide_eq_true c4
     by_cases c5 : (IntKind.u64.wrap ((ji2) + 1)) ≤ 16
     ·
      rw [if_pos c5] at H
      have c5b0 := eq_true c5
      have c5b1 : decide ((IntKind.u64.wrap ((ji2) + 1)) ≤ 16) = true := decide_eq_true c5
      by_cases c6 : ((⟨#[48, 49, 50, 51, 52, 53, 54, 55, 56, 57, 97, 98, 99, 100, 101, 102]⟩ : ByteArray).extract ((ji2) : Int).toNat ((IntKind.u64.wrap ((ji2) + 1)) : Int).toNat).size + x3_1.size ≤ 9223372036854775807
      ·
       rw [if_pos c6] at H
       have c6b0 := eq_true c6
       have c6b1 : decide (((⟨#[48, 49, 50, 51, 52, 53, 54, 55, 56, 57, 97, 98, 99, 100, 101, 102]⟩ : ByteArray).extract ((ji2) : Int).toNat ((IntKind.u64.wrap ((ji2) + 1)) : Int).toNat).size + x3_1.size ≤ 9223372036854775807) = true := decide_eq_true c6
       try have c6b2 : (9223372036854775807 < ((⟨#[48, 49, 50, 51, 52, 53, 54, 55, 56, 57, 97, 98, 99, 100, 101, 102]⟩ : ByteArray).extract ((ji2) : Int).toNat ((IntKind.u64.wrap ((ji2) + 1)) : Int).toNat).size + x3_1.size) = False := eq_false (Nat.not_lt.2 c6)
       by_cases c7 : (IntKind.u64.wrap (Int.tdiv x0_1 10)) = 0
       · rw [if_pos c7] at H
         have c7b0 : ((IntKind.u64.wrap (Int.tdiv x0_1 10)) == 0) = true := beq_iff_eq.mpr c7
         have c7b1 : ((IntKind.u64.wrap (Int.tdiv x0_1 10)) != 0) = false := bne_eq_false_iff_eq.mpr c7
         clear c7
         obtain rfl := Option.some.inj H
         go_wp2
         go_ret
         exact ⟨by first | rfl | (simp; done) | (simp only [← hji2] <;> (first | rfl | simp)) | (simp [*]; done), by repeat (first | exact Drawn0.refl _ | apply Drawn0.step)⟩
       · rw [if_neg c7] at H
         have c7b0 : ((IntKind.u64.wrap (Int.tdiv x0_1 10)) == 0) = false := beq_eq_false_iff_ne.mpr c7
         have c7b1 : ((IntKind.u64.wrap (Int.tdiv x0_1 10)) != 0) = true := bne_iff_ne.mpr c7
         have H' := Aside0.mk H
         clear H
         go_wp2
         go_roundg k1
         case measure => have := HK1.out; omega
         case rel => exact ⟨(IntKind.u64.wrap (Int.tdiv x0_1 10)), (((⟨#[48, 49, 50, 51, 52, 53, 54, 55, 56, 57, 97, 98, 99, 100, 101, 102]⟩ : ByteArray).extract ((ji2) : Int).toNat ((IntKind.u64.wrap ((ji2) + 1)) : Int).toNat) ++ x3_1), (by first | rfl | (simp; done) | (simp [*]; done)), (by first | rfl | (simp; done) | (simp only [← hji2] <;> (first | rfl | simp)) | (simp [*]; done)), H', ⟨by have := HK1.out; omega⟩, by repeat (first | exact Drawn0.refl _ | apply Drawn0.step)⟩
      · rw [if_neg c6] at H
        exact absurd H (by simp)
     · rw [if_neg c5] at H
       exact absurd H (by simp)
    · rw [if_neg c4] at H
      exact absurd H (by simp)
   · rw [if_neg c3] at H
     exact absurd H (by simp)

/-! ### code_Undec: function 23 (given by hand) -/
/-- The number of digits, one by one. -/
def code_Undec.go : List Int → Int → Option Int
 | [], n => some n
 | c :: cs, n => if c < 48 then none else if 57 < c then none else if (18446744073709551615 - (c - 48)) / 10 < n then none else code_Undec.go cs (n * 10 + (c - 48))
theorem code_Undec.wrap {x : Int} (h0 : 0 ≤ x) (h1 : x ≤ 18446744073709551615) : IntKind.u64.wrap x = x := by
 have hb : IntKind.u64.bits = 64 := rfl
 simp only [IntKind.wrap, hb]
 exact Int.emod_eq_of_lt h0 (by omega)
theorem code_Undec.ne {a : ByteArray} (z : ¬ a.size = 0) : a.toList.isEmpty = false := by
 rw [Bool.eq_false_iff]
 intro h
 rw [List.isEmpty_iff] at h
 have h2 : a.toList.length = a.size := by rw [Go.ByteArray.toList_eq, Array.length_toList]; rfl
 rw [h] at h2
 exact z h2.symm
theorem code_Undec.unlike {a b : ByteArray} (h : ¬ a = b) : (a.toList == b.toList) = false := by
 rw [Bool.eq_false_iff]
 intro h1
 have h2 := eq_of_beq h1
 rw [Go.ByteArray.toList_eq, Go.ByteArray.toList_eq] at h2
 exact h (ByteArray.ext (Array.ext' h2))
def code_Undec.f (k : Nat) (a0 : ByteArray) : Option (Int × Int) := if a0.size ≤ 70368744177664 then (match code_Undec.go (bytesOf a0) 0 with
 | none => some (0, 6)
 | some n => if a0.size = 0 then some (0, 6) else (code_Dec.f k n).bind fun d => if a0 = d then some (n, 0) else some (0, 6)) else none
theorem code_Undec.mono : ∀ a0 k, LeO (code_Undec.f k a0) (code_Undec.f (k + 1) a0) := by
 intro a0 k
 unfold code_Undec.f
 refine LeO.ite ?_ (LeO.none _)
 cases code_Undec.go (bytesOf a0) 0 with
 | none => exact LeO.refl _
 | some n => exact LeO.ite (LeO.refl _) (LeO.bind (code_Dec.mono _ _) (fun _ => LeO.refl _))
set_option maxHeartbeats 4000000 in
set_option maxRecDepth 100000 in
theorem code_Undec.calls (k : Nat) (a0 : ByteArray) (r1 : Int) (r2 : Int) (w : World) (h : code_Undec.f k a0 = some (r1, r2)) :
 Calls Tryd.prog 23 #[.string a0] w fun e w' => e = .returned (.tuple #[.int .u64 r1, .int .i64 r2]) ∧ Below w.heap.size w w' := by
 unfold code_Undec.f at h
 by_cases hs : a0.size ≤ 70368744177664
 ·
  rw [if_pos hs] at h
  have H := Aside0.mk h
  have kb := fun W => print_bytes (P := Tryd.prog) 9 91 5 Tryd.underlying9 Tryd.underlying91 Tryd.underlying5 a0 W
  have RB := Aside0.mk (bytes_reads w 5 a0 (by omega))
  have BB := Aside0.mk (bytes_below (Below.refl w.heap.size w) (Nat.le_refl _) 5 a0)
  clear h
  go_enter Tryd.func23, Tryd.ntmps23
  go_wp2_with fail
  clear kb
  generalize Lib.bytesWorld w 5 a0 = W1 at *
  go_loop [4, 11] (fun u4 u11 => ∃ (j : Nat) (n : Int), u4 = .int .u64 n ∧ u11 = .int .i64 j ∧ j ≤ a0.size ∧ 0 ≤ n ∧ n ≤ 18446744073709551615 ∧ Aside0 (code_Undec.go (bytesOf a0) 0 = code_Undec.go ((bytesOf a0).drop j) n)) (fun _ u11 => a0.size - (intOf u11).toNat)
  case atStart => exact ⟨0, 0, rfl, rfl, by omega, by omega, by omega, ⟨rfl⟩⟩
  case round =>
   obtain ⟨j, n, rfl, rfl, hj, hn0, hn1, HG⟩ := hrel
   by_cases hlt : j < a0.size
   ·
    have hltI : (j : Int) < (a0.size : Int) := by omega
    obtain ⟨ad, ead, hcell⟩ := RB.out.2.2 (by omega)
    cases ead
    have hc := hcell j hlt
    rw [add_plain] at hc
    clear hcell
    have hlen : j < (bytesOf a0).length := by rw [bytesOf_length]; exact hlt
    have hdrop : (bytesOf a0).drop j = (bytesOf a0).getD j 0 :: (bytesOf a0).drop (j + 1) := by
     rw [List.getD_eq_getElem?_getD, List.getElem?_eq_getElem hlen]
     exact List.drop_eq_getElem_cons hlen
    have hrange : 0 ≤ (bytesOf a0).getD j 0 ∧ (bytesOf a0).getD j 0 ≤ 255 := by
     rw [List.getD_eq_getElem?_getD, List.getElem?_eq_getElem hlen]
     simp only [bytesOf, List.getElem_map, Option.getD_some]
     have := (a0.data.toList[j]'(by simpa [bytesOf] using hlen)).toNat_lt
     omega
    rw [hdrop] at HG
    generalize (bytesOf a0).getD j 0 = c at *
    clear hlen hdrop
    have wc0 : IntKind.u64.wrap c = c := code_Undec.wrap (by omega) (by omega)
    by_cases c1 : c < 48
    · have c1b : decide (c < 48) = true := decide_eq_true c1
      have e0 : code_Undec.go (bytesOf a0) 0 = none := by rw [HG.out, code_Undec.go, if_pos c1]
      have e1 := H.out
      rw [e0] at e1
      simp only [Option.some.injEq, Prod.mk.injEq] at e1
      obtain ⟨rfl, rfl⟩ := e1
      clear H e0 HG
      go_wp2_with fail
      go_ret2
      exact ⟨rfl, BB.out⟩
    ·
     have c1b : decide (c < 48) = false := decide_eq_false c1
     have wd0 : IntKind.u64.wrap (c - 48) = c - 48 := code_Undec.wrap (by omega) (by omega)
     by_cases c2 : 57 < c
     · have c2b : decide (57 < c) = true := decide_eq_true c2
       have e0 : code_Undec.go (bytesOf a0) 0 = none := by rw [HG.out, code_Undec.go, if_neg c1, if_pos c2]
       have e1 := H.out
       rw [e0] at e1
       simp only [Option.some.injEq, Prod.mk.injEq] at e1
       obtain ⟨rfl, rfl⟩ := e1
       clear H e0 HG
       go_wp2_with fail
       go_ret2
       exact ⟨rfl, BB.out⟩
     ·
      have c2b : decide (57 < c) = false := decide_eq_false c2
      have wd1 : IntKind.u64.wrap (18446744073709551615 - (c - 48)) = 18446744073709551615 - (c - 48) := code_Undec.wrap (by omega) (by omega)
      have tq : Int.tdiv (18446744073709551615 - (c - 48)) 10 = (18446744073709551615 - (c - 48)) / 10 := Int.tdiv_eq_ediv_of_nonneg (by omega)
      by_cases c3 : (18446744073709551615 - (c - 48)) / 10 < n
      · have c3b : decide ((18446744073709551615 - (c - 48)) / 10 < n) = true := decide_eq_true c3
        have e0 : code_Undec.go (bytesOf a0) 0 = none := by rw [HG.out, code_Undec.go, if_neg c1, if_neg c2, if_pos c3]
        have e1 := H.out
        rw [e0] at e1
        simp only [Option.some.injEq, Prod.mk.injEq] at e1
        obtain ⟨rfl, rfl⟩ := e1
        clear H e0 HG
        go_wp2_with fail
        go_ret2
        exact ⟨rfl, BB.out⟩
      · have c3b : decide ((18446744073709551615 - (c - 48)) / 10 < n) = false := decide_eq_false c3
        have wn0 : IntKind.u64.wrap (n * 10) = n * 10 := code_Undec.wrap (by omega) (by omega)
        have wn1 : IntKind.u64.wrap (n * 10 + (c - 48)) = n * 10 + (c - 48) := code_Undec.wrap (by omega) (by omega)
        have HG2 : Aside0 (code_Undec.go (bytesOf a0) 0 = code_Undec.go ((bytesOf a0).drop (j + 1)) (n * 10 + (c - 48))) := ⟨by rw [HG.out, code_Undec.go, if_neg c1, if_neg c2, if_neg c3]⟩
        clear HG
        go_wp2_with fail
        go_round
        case rel => exact ⟨j + 1, _, rfl, rfl, by omega, by omega, by omega, HG2⟩
        case measure =>
         simp [intOf]
         omega
   ·
    obtain rfl : j = a0.size := by omega
    have e0 : code_Undec.go (bytesOf a0) 0 = some n := by rw [HG.out, List.drop_eq_nil_of_le (by rw [bytesOf_length]; exact Nat.le_refl _), code_Undec.go]
    have e1 := H.out
    rw [e0] at e1
    clear H HG e0
    simp only at e1
    by_cases z : a0.size = 0
    · rw [if_pos z] at e1
      simp only [Option.some.injEq, Prod.mk.injEq] at e1
      obtain ⟨rfl, rfl⟩ := e1
      have hz : a0 = ⟨#[]⟩ := by
       apply ByteArray.ext
       exact Array.eq_empty_of_size_eq_zero z
      subst hz
      go_wp2_with fail
      go_ret2
      exact ⟨rfl, BB.out⟩
    ·
     rw [if_neg z] at e1
     obtain ⟨d, hd, e1⟩ := Option.bind_eq_some_iff.mp e1
     have hne : a0.toList.isEmpty = false := code_Undec.ne z
     by_cases c4 : a0 = d
     · rw [if_pos c4] at e1
       simp only [Option.some.injEq, Prod.mk.injEq] at e1
       obtain ⟨rfl, rfl⟩ := e1
       subst c4
       go_wp2_with (go_at_call 34; refine (code_Dec.calls k n _ _ hd).mono ?_; rintro e w2 ⟨rfl, ⟨nd, rfl⟩⟩)
       go_ret2
       exact ⟨rfl, pw_below_drewN BB.out nd⟩
     · rw [if_neg c4] at e1
       simp only [Option.some.injEq, Prod.mk.injEq] at e1
       obtain ⟨rfl, rfl⟩ := e1
       have c4d : (a0.toList == d.toList) = false := code_Undec.unlike c4
       go_wp2_with (go_at_call 34; refine (code_Dec.calls k n _ _ hd).mono ?_; rintro e w2 ⟨rfl, ⟨nd, rfl⟩⟩)
       go_ret2
       exact ⟨rfl, pw_below_drewN BB.out nd⟩
 · rw [if_neg hs] at h
   cases h


end Go.Proofs.YtnapcfpecpgdbaaDoor.M
