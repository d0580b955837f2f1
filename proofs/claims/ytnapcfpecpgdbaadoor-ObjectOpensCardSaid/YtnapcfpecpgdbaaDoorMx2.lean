/- The program's functions as plain functions, and that each call comes to what these tell; written by a program of this session, some contracts by hand. Conditions: none. -/
import Derived.Test.YtnapcfpecpgdbaaDoorMx0
namespace Go.Proofs.YtnapcfpecpgdbaaDoor.M
open Go.RowKit Go.Proofs.YtnapcfpecpgdbaaDoorW.PrintWords Go.Proofs.YtnapcfpecpgdbaaDoorW.PrintLast Go.Proofs.YtnapcfpecpgdbaaDoorW.PrintMore
attribute [local go_sem] max2_int min2_int max_two min_two max_three min_three max_four min_four   -- for this text's walks alone
set_option linter.unusedVariables false
set_option linter.unusedSimpArgs false

/-! ### l7_few: function 7 -/
def l7_few.f (a0 : ByteArray) : Option (ByteArray) := if (a0.size : Int) > 5000 then (if 0 ≤ 5000 then (if 5000 ≤ (a0.size : Int) then (some (a0.extract 0 5000)) else (none)) else (none)) else (some a0)
set_option maxHeartbeats 8000000 in
set_option maxRecDepth 100000 in
theorem l7_few.calls (a0 : ByteArray) (r : ByteArray) (w : World) (h : l7_few.f a0 = some r) :
 Calls Tryd.prog 7 #[.string a0] w fun e w' => e = .returned (.string r) ∧ Drawn0 w w' := by
 have H : (if (a0.size : Int) > 5000 then (if 0 ≤ 5000 then (if 5000 ≤ (a0.size : Int) then (some (a0.extract 0 5000)) else (none)) else (none)) else (some a0)) = some r := h
 clear h
 by_cases c2 : (a0.size : Int) > 5000
 ·
  rw [if_pos c2] at H
  have c2b0 : decide (5000 < (a0.size : Int)) = true := decide_eq_true c2
  have c2b1 : decide (5000 < a0.size) = true := decide_eq_true (by omega)
  clear c2
  by_cases c3 : 0 ≤ 5000
  ·
   rw [if_pos c3] at H
   have c3b0 := eq_true c3
   have c3b1 : decide (0 ≤ 5000) = true := decide_eq_true c3
   clear c3
   by_cases c4 : 5000 ≤ (a0.size : Int)
   · rw [if_pos c4] at H
     have c4b0 := eq_true c4
     have c4b1 : decide (5000 ≤ (a0.size : Int)) = true := decide_eq_true c4
     clear c4
     obtain rfl := Option.some.inj H
     go_enter Tryd.func7, Tryd.ntmps7
     go_wp2
     go_ret
     exact ⟨ez_, dz_⟩
   · rw [if_neg c4] at H
     exact absurd H (by simp)
  · rw [if_neg c3] at H
    exact absurd H (by simp)
 · rw [if_neg c2] at H
   have c2b0 : decide (5000 < (a0.size : Int)) = false := decide_eq_false c2
   have c2b1 : decide (5000 < a0.size) = false := decide_eq_false (by omega)
   clear c2
   obtain rfl := Option.some.inj H
   go_enter Tryd.func7, Tryd.ntmps7
   go_wp2
   go_ret
   exact ⟨ez_, dz_⟩

/-! ### code_Dec: function 34 -/
def code_Dec.l0 : Nat → Int → ByteArray → Option (ByteArray)
 | 0, _, _ => none
 | k + 1, x0, x3 => if 0 ≤ (Int.tmod x0 10) then (if (Int.tmod x0 10) ≤ (IntKind.u64.wrap ((Int.tmod x0 10) + 1)) then (if (IntKind.u64.wrap ((Int.tmod x0 10) + 1)) ≤ 16 then (if ((⟨#[48, 49, 50, 51, 52, 53, 54, 55, 56, 57, 97, 98, 99, 100, 101, 102]⟩ : ByteArray).extract ((Int.tmod x0 10) : Int).toNat ((IntKind.u64.wrap ((Int.tmod x0 10) + 1)) : Int).toNat).size + x3.size ≤ 9223372036854775807 then (if (IntKind.u64.wrap (Int.tdiv x0 10)) = 0 then (some (((⟨#[48, 49, 50, 51, 52, 53, 54, 55, 56, 57, 97, 98, 99, 100, 101, 102]⟩ : ByteArray).extract ((Int.tmod x0 10) : Int).toNat ((IntKind.u64.wrap ((Int.tmod x0 10) + 1)) : Int).toNat) ++ x3)) else (code_Dec.l0 k (IntKind.u64.wrap (Int.tdiv x0 10)) (((⟨#[48, 49, 50, 51, 52, 53, 54, 55, 56, 57, 97, 98, 99, 100, 101, 102]⟩ : ByteArray).extract ((Int.tmod x0 10) : Int).toNat ((IntKind.u64.wrap ((Int.tmod x0 10) + 1)) : Int).toNat) ++ x3))) else (none)) else (none)) else (none)) else (none)
def code_Dec.f (k : Nat) (a0 : Int) : Option (ByteArray) := code_Dec.l0 k a0 (⟨#[]⟩ : ByteArray)
theorem code_Dec.mono_l : ∀ k, (∀ y0 y1, LeO (code_Dec.l0 k y0 y1) (code_Dec.l0 (k + 1) y0 y1))
 | 0 => fun _ _ r h => by simp [code_Dec.l0] at h
 | k + 1 => by
  have ih0 := code_Dec.mono_l k
  · intro y0 y1
    unfold code_Dec.l0
    repeat' with_reducible first | exact ih0 _ _ | exact LeO.refl _ | exact LeO.none _ | refine LeO.ite ?_ ?_ | refine LeO.bind ?_ (fun _ => ?_)
theorem code_Dec.mono : ∀ a0 k, LeO (code_Dec.f k a0) (code_Dec.f (k + 1) a0) := by
 intro a0 k
 have ih0 := code_Dec.mono_l k
 unfold code_Dec.f
 repeat' with_reducible first | exact ih0 _ _ | exact LeO.refl _ | exact LeO.none _ | refine LeO.ite ?_ ?_ | refine LeO.bind ?_ (fun _ => ?_)
set_option maxHeartbeats 8000000 in
set_option maxRecDepth 100000 in
theorem code_Dec.calls (k : Nat) (a0 : Int) (r : ByteArray) (w : World) (h : code_Dec.f k a0 = some r) :
 Calls Tryd.prog 34 #[.int .u64 a0] w fun e w' => e = .returned (.string r) ∧ Drawn0 w w' := by
 have H : (code_Dec.l0 k a0 (⟨#[]⟩ : ByteArray)) = some r := h
 clear h
 have H' := Aside0.mk H
 clear H
 go_enter Tryd.func34, Tryd.ntmps34
 go_wp2
 go_loopg [0, 3] k (fun kq v0 v3 w' => ∃ (x0_1 : Int) (x3_1 : ByteArray), v0 = .int .u64 x0_1 ∧ v3 = .string x3_1 ∧ Aside0 (code_Dec.l0 kq x0_1 x3_1 = some r) ∧ Aside0 (kq ≤ k) ∧ Drawn0 w w')
 case atStart => exact ⟨(a0), ((⟨#[]⟩ : ByteArray)), ez_, ez_, H', ⟨Nat.le_refl _⟩, dz_⟩
 case round =>
  clear H'
  obtain ⟨x0_1, x3_1, rfl, rfl, HA, HK1, ⟨m1, rfl⟩⟩ := hrel
  cases gk with
  | zero => exact absurd HA.out (by simp [code_Dec.l0])
  | succ k1 =>
   have H := HA.out
   clear HA
   simp only [code_Dec.l0] at H
   obtain ⟨ji2, hji2⟩ : ∃ j_ : Int, (Int.tmod x0_1 10) = j_ := ⟨_, rfl⟩
   replace H : (if 0 ≤ (ji2) then (if (ji2) ≤ (IntKind.u64.wrap ((ji2) + 1)) then (if (IntKind.u64.wrap ((ji2) + 1)) ≤ 16 then (if ((⟨#[48, 49, 50, 51, 52, 53, 54, 55, 56, 57, 97, 98, 99, 100, 101, 102]⟩ : ByteArray).extract ((ji2) : Int).toNat ((IntKind.u64.wrap ((ji2) + 1)) : Int).toNat).size + x3_1.size ≤ 9223372036854775807 then (if (IntKind.u64.wrap (Int.tdiv x0_1 10)) = 0 then (some (((⟨#[48, 49, 50, 51, 52, 53, 54, 55, 56, 57, 97, 98, 99, 100, 101, 102]⟩ : ByteArray).extract ((ji2) : Int).toNat ((IntKind.u64.wrap ((ji2) + 1)) : Int).toNat) ++ x3_1)) else (code_Dec.l0 k1 (IntKind.u64.wrap (Int.tdiv x0_1 10)) (((⟨#[48, 49, 50, 51, 52, 53, 54, 55, 56, 57, 97, 98, 99, 100, 101, 102]⟩ : ByteArray).extract ((ji2) : Int).toNat ((IntKind.u64.wrap ((ji2) + 1)) : Int).toNat) ++ x3_1))) else (none)) else (none)) else (none)) else (none)) = some r := by first | (rw [hji2] at H; exact H) | (simp only [hji2] at H ⊢; exact H)
   by_cases c3 : 0 ≤ (ji2)
   ·
    rw [if_pos c3] at H
    have c3b0 := eq_true c3
    have c3b1 : decide (0 ≤ (ji2)) = true := decide_eq_true c3
    clear c3
    by_cases c4 : (ji2) ≤ (IntKind.u64.wrap ((ji2) + 1))
    ·
     rw [if_pos c4] at H
     have c4b0 := eq_true c4
     have c4b1 : decide ((ji2) ≤ (IntKind.u64.wrap ((ji2) + 1))) = true := decide_eq_true c4
     by_cases c5 : (IntKind.u64.wrap ((ji2) + 1)) ≤ 16
     ·
      rw [if_pos c5] at H
      have c5b0 := eq_true c5
      have c5b1 : decide ((IntKind.u64.wrap ((ji2) + 1)) ≤ 16) = true := decide_eq_true c5
      by_cases c6 : ((⟨#[48, 49, 50, 51, 52, 53, 54, 55, 56, 57, 97, 98, 99, 100, 101, 102]⟩ : ByteArray).extract ((ji2) : Int).toNat ((IntKind.u64.wrap ((ji2) + 1)) : Int).toNat).size + x3_1.size ≤ 9223372036854775807
      ·
       rw [if_pos c6] at H
       have c6b0 := eq_true c6
       have c6b1 : decide (((⟨#[48, 49, 50, 51, 52, 53, 54, 55, 56, 57, 97, 98, 99, 100, 101, 102]⟩ : ByteArray).extract ((ji2) : Int).toNat ((IntKind.u64.wrap ((ji2) + 1)) : Int).toNat).size + x3_1.size ≤ 9223372036854775807) = true := decide_eq_true c6
       try have c6b2 : (9223372036854775807 < ((⟨#[48, 49, 50, 51, 52, 53, 54, 55, 56, 57, 97, 98, 99, 100, 101, 102]⟩ : ByteArray).extract ((ji2) : Int).toNat ((IntKind.u64.wrap ((ji2) + 1)) : Int).toNat).size + x3_1.size) = False := eq_false (Nat.not_lt.2 c6)
       by_cases c7 : (IntKind.u64.wrap (Int.tdiv x0_1 10)) = 0
       · rw [if_pos c7] at H
         have c7b0 : ((IntKind.u64.wrap (Int.tdiv x0_1 10)) == 0) = true := beq_iff_eq.mpr c7
         have c7b1 : ((IntKind.u64.wrap (Int.tdiv x0_1 10)) != 0) = false := bne_eq_false_iff_eq.mpr c7
         clear c7
         obtain rfl := Option.some.inj H
         go_wp2
         go_ret
         exact ⟨by first | rfl | (simp; done) | (simp only [← hji2] <;> (first | rfl | simp)) | (simp [*]; done), dz_⟩
       · rw [if_neg c7] at H
         have c7b0 : ((IntKind.u64.wrap (Int.tdiv x0_1 10)) == 0) = false := beq_eq_false_iff_ne.mpr c7
         have c7b1 : ((IntKind.u64.wrap (Int.tdiv x0_1 10)) != 0) = true := bne_iff_ne.mpr c7
         have H' := Aside0.mk H
         clear H
         go_wp2
         go_roundg k1
         case measure => have := HK1.out; omega
         case rel => exact ⟨(IntKind.u64.wrap (Int.tdiv x0_1 10)), (((⟨#[48, 49, 50, 51, 52, 53, 54, 55, 56, 57, 97, 98, 99, 100, 101, 102]⟩ : ByteArray).extract ((ji2) : Int).toNat ((IntKind.u64.wrap ((ji2) + 1)) : Int).toNat) ++ x3_1), ez_, (by first | rfl | (simp; done) | (simp only [← hji2] <;> (first | rfl | simp)) | (simp [*]; done)), H', ⟨by have := HK1.out; omega⟩, dz_⟩
      · rw [if_neg c6] at H
        exact absurd H (by simp)
     · rw [if_neg c5] at H
       exact absurd H (by simp)
    · rw [if_neg c4] at H
      exact absurd H (by simp)
   · rw [if_neg c3] at H
     exact absurd H (by simp)

/-! ### code_Undec: function 23 (given by hand) -/
/-- The number of digits, one by one. -/
def code_Undec.go : List Int → Int → Option Int
 | [], n => some n
 | c :: cs, n => if c < 48 then none else if 57 < c then none else if (18446744073709551615 - (c - 48)) / 10 < n then none else code_Undec.go cs (n * 10 + (c - 48))
theorem code_Undec.wrap {x : Int} (h0 : 0 ≤ x) (h1 : x ≤ 18446744073709551615) : IntKind.u64.wrap x = x := by
 have hb : IntKind.u64.bits = 64 := rfl
 simp only [IntKind.wrap, hb]
 exact Int.emod_eq_of_lt h0 (by omega)
theorem code_Undec.ne {a : ByteArray} (z : ¬ a.size = 0) : a.toList.isEmpty = false := by
 rw [Bool.eq_false_iff]
 intro h
 rw [List.isEmpty_iff] at h
 have h2 : a.toList.length = a.size := by rw [Go.ByteArray.toList_eq, Array.length_toList]; rfl
 rw [h] at h2
 exact z h2.symm
theorem code_Undec.unlike {a b : ByteArray} (h : ¬ a = b) : (a.toList == b.toList) = false := by
 rw [Bool.eq_false_iff]
 intro h1
 have h2 := eq_of_beq h1
 rw [Go.ByteArray.toList_eq, Go.ByteArray.toList_eq] at h2
 exact h (ByteArray.ext (Array.ext' h2))
def code_Undec.f (k : Nat) (a0 : ByteArray) : Option (Int × Int) := if a0.size ≤ 70368744177664 then (match code_Undec.go (bytesOf a0) 0 with
 | none => some (0, 6)
 | some n => if a0.size = 0 then some (0, 6) else (code_Dec.f k n).bind fun d => if a0 = d then some (n, 0) else some (0, 6)) else none
theorem code_Undec.mono : ∀ a0 k, LeO (code_Undec.f k a0) (code_Undec.f (k + 1) a0) := by
 intro a0 k
 unfold code_Undec.f
 refine LeO.ite ?_ (LeO.none _)
 cases code_Undec.go (bytesOf a0) 0 with
 | none => exact LeO.refl _
 | some n => exact LeO.ite (LeO.refl _) (LeO.bind (code_Dec.mono _ _) (fun _ => LeO.refl _))
set_option maxHeartbeats 4000000 in
set_option maxRecDepth 100000 in
theorem code_Undec.calls (k : Nat) (a0 : ByteArray) (r1 : Int) (r2 : Int) (w : World) (h : code_Undec.f k a0 = some (r1, r2)) :
 Calls Tryd.prog 23 #[.string a0] w fun e w' => e = .returned (.tuple #[.int .u64 r1, .int .i64 r2]) ∧ Below w.heap.size w w' := by
 unfold code_Undec.f at h
 by_cases hs : a0.size ≤ 70368744177664
 ·
  rw [if_pos hs] at h
  have H := Aside0.mk h
  have kb := fun W => print_bytes (P := Tryd.prog) 9 91 5 Tryd.underlying9 Tryd.underlying91 Tryd.underlying5 a0 W
  have RB := Aside0.mk (bytes_reads w 5 a0 (by omega))
  have BB := Aside0.mk (bytes_below (Below.refl w.heap.size w) (Nat.le_refl _) 5 a0)
  clear h
  go_enter Tryd.func23, Tryd.ntmps23
  go_wp2_with fail
  clear kb
  generalize Lib.bytesWorld w 5 a0 = W1 at *
  go_loop [4, 11] (fun u4 u11 => ∃ (j : Nat) (n : Int), u4 = .int .u64 n ∧ u11 = .int .i64 j ∧ j ≤ a0.size ∧ 0 ≤ n ∧ n ≤ 18446744073709551615 ∧ Aside0 (code_Undec.go (bytesOf a0) 0 = code_Undec.go ((bytesOf a0).drop j) n)) (fun _ u11 => a0.size - (intOf u11).toNat)
  case atStart => exact ⟨0, 0, rfl, rfl, by omega, by omega, by omega, ⟨rfl⟩⟩
  case round =>
   obtain ⟨j, n, rfl, rfl, hj, hn0, hn1, HG⟩ := hrel
   by_cases hlt : j < a0.size
   ·
    have hltI : (j : Int) < (a0.size : Int) := by omega
    obtain ⟨ad, ead, hcell⟩ := RB.out.2.2 (by omega)
    cases ead
    have hc := hcell j hlt
    rw [add_plain] at hc
    clear hcell
    have hlen : j < (bytesOf a0).length := by rw [bytesOf_length]; exact hlt
    have hdrop : (bytesOf a0).drop j = (bytesOf a0).getD j 0 :: (bytesOf a0).drop (j + 1) := by
     rw [List.getD_eq_getElem?_getD, List.getElem?_eq_getElem hlen]
     exact List.drop_eq_getElem_cons hlen
    have hrange : 0 ≤ (bytesOf a0).getD j 0 ∧ (bytesOf a0).getD j 0 ≤ 255 := by
     rw [List.getD_eq_getElem?_getD, List.getElem?_eq_getElem hlen]
     simp only [bytesOf, List.getElem_map, Option.getD_some]
     have := (a0.data.toList[j]'(by simpa [bytesOf] using hlen)).toNat_lt
     omega
    rw [hdrop] at HG
    generalize (bytesOf a0).getD j 0 = c at *
    clear hlen hdrop
    have wc0 : IntKind.u64.wrap c = c := code_Undec.wrap (by omega) (by omega)
    by_cases c1 : c < 48
    · have c1b : decide (c < 48) = true := decide_eq_true c1
      have e0 : code_Undec.go (bytesOf a0) 0 = none := by rw [HG.out, code_Undec.go, if_pos c1]
      have e1 := H.out
      rw [e0] at e1
      simp only [Option.some.injEq, Prod.mk.injEq] at e1
      obtain ⟨rfl, rfl⟩ := e1
      clear H e0 HG
      go_wp2_with fail
      go_ret2
      exact ⟨rfl, BB.out⟩
    ·
     have c1b : decide (c < 48) = false := decide_eq_false c1
     have wd0 : IntKind.u64.wrap (c - 48) = c - 48 := code_Undec.wrap (by omega) (by omega)
     by_cases c2 : 57 < c
     · have c2b : decide (57 < c) = true := decide_eq_true c2
       have e0 : code_Undec.go (bytesOf a0) 0 = none := by rw [HG.out, code_Undec.go, if_neg c1, if_pos c2]
       have e1 := H.out
       rw [e0] at e1
       simp only [Option.some.injEq, Prod.mk.injEq] at e1
       obtain ⟨rfl, rfl⟩ := e1
       clear H e0 HG
       go_wp2_with fail
       go_ret2
       exact ⟨rfl, BB.out⟩
     ·
      have c2b : decide (57 < c) = false := decide_eq_false c2
      have wd1 : IntKind.u64.wrap (18446744073709551615 - (c - 48)) = 18446744073709551615 - (c - 48) := code_Undec.wrap (by omega) (by omega)
      have tq : Int.tdiv (18446744073709551615 - (c - 48)) 10 = (18446744073709551615 - (c - 48)) / 10 := Int.tdiv_eq_ediv_of_nonneg (by omega)
      by_cases c3 : (18446744073709551615 - (c - 48)) / 10 < n
      · have c3b : decide ((18446744073709551615 - (c - 48)) / 10 < n) = true := decide_eq_true c3
        have e0 : code_Undec.go (bytesOf a0) 0 = none := by rw [HG.out, code_Undec.go, if_neg c1, if_neg c2, if_pos c3]
        have e1 := H.out
        rw [e0] at e1
        simp only [Option.some.injEq, Prod.mk.injEq] at e1
        obtain ⟨rfl, rfl⟩ := e1
        clear H e0 HG
        go_wp2_with fail
        go_ret2
        exact ⟨rfl, BB.out⟩
      · have c3b : decide ((18446744073709551615 - (c - 48)) / 10 < n) = false := decide_eq_false c3
        have wn0 : IntKind.u64.wrap (n * 10) = n * 10 := code_Undec.wrap (by omega) (by omega)
        have wn1 : IntKind.u64.wrap (n * 10 + (c - 48)) = n * 10 + (c - 48) := code_Undec.wrap (by omega) (by omega)
        have HG2 : Aside0 (code_Undec.go (bytesOf a0) 0 = code_Undec.go ((bytesOf a0).drop (j + 1)) (n * 10 + (c - 48))) := ⟨by rw [HG.out, code_Undec.go, if_neg c1, if_neg c2, if_neg c3]⟩
        clear HG
        go_wp2_with fail
        go_round
        case rel => exact ⟨j + 1, _, rfl, rfl, by omega, by omega, by omega, HG2⟩
        case measure =>
         simp [intOf]
         omega
   ·
    obtain rfl : j = a0.size := by omega
    have e0 : code_Undec.go (bytesOf a0) 0 = some n := by rw [HG.out, List.drop_eq_nil_of_le (by rw [bytesOf_length]; exact Nat.le_refl _), code_Undec.go]
    have e1 := H.out
    rw [e0] at e1
    clear H HG e0
    simp only at e1
    by_cases z : a0.size = 0
    · rw [if_pos z] at e1
      simp only [Option.some.injEq, Prod.mk.injEq] at e1
      obtain ⟨rfl, rfl⟩ := e1
      have hz : a0 = ⟨#[]⟩ := by
       apply ByteArray.ext
       exact Array.eq_empty_of_size_eq_zero z
      subst hz
      go_wp2_with fail
      go_ret2
      exact ⟨rfl, BB.out⟩
    ·
     rw [if_neg z] at e1
     obtain ⟨d, hd, e1⟩ := Option.bind_eq_some_iff.mp e1
     have hne : a0.toList.isEmpty = false := code_Undec.ne z
     by_cases c4 : a0 = d
     · rw [if_pos c4] at e1
       simp only [Option.some.injEq, Prod.mk.injEq] at e1
       obtain ⟨rfl, rfl⟩ := e1
       subst c4
       go_wp2_with (go_at_call 34; refine (code_Dec.calls k n _ _ hd).mono ?_; rintro e w2 ⟨rfl, ⟨nd, rfl⟩⟩)
       go_ret2
       exact ⟨rfl, pw_below_drewN BB.out nd⟩
     · rw [if_neg c4] at e1
       simp only [Option.some.injEq, Prod.mk.injEq] at e1
       obtain ⟨rfl, rfl⟩ := e1
       have c4d : (a0.toList == d.toList) = false := code_Undec.unlike c4
       go_wp2_with (go_at_call 34; refine (code_Dec.calls k n _ _ hd).mono ?_; rintro e w2 ⟨rfl, ⟨nd, rfl⟩⟩)
       go_ret2
       exact ⟨rfl, pw_below_drewN BB.out nd⟩
 · rw [if_neg hs] at h
   cases h


/-! ### strings_Cut: function 40 (given by hand) -/
/-- strings.Cut at a separator of one byte. -/
def strings_Cut.f (a0 : ByteArray) (a1 : ByteArray) : Option (ByteArray × ByteArray × Bool) :=
 if a1.size = 1 ∧ a0.size ≤ 140737488351232 then (if 0 ≤ Lib.indexByte a0.data.toList (a1.get! 0) then some (a0.extract 0 (Lib.indexByte a0.data.toList (a1.get! 0)).toNat, a0.extract ((Lib.indexByte a0.data.toList (a1.get! 0)).toNat + 1) a0.size, true) else some (a0, (⟨#[]⟩ : ByteArray), false)) else none
theorem strings_Cut.one (a1 : ByteArray) (h : a1.size = 1) : a1 = ⟨#[a1.get! 0]⟩ := by
 obtain ⟨⟨l⟩⟩ := a1
 match l, h with
 | [c], _ => rfl
theorem strings_Cut.index_lt (l : List UInt8) (c : UInt8) : Lib.indexByte l c < l.length ∧ -1 ≤ Lib.indexByte l c := by
 induction l with
 | nil => simp [Lib.indexByte]
 | cons b l ih =>
  simp only [Lib.indexByte, List.length_cons]
  split
  · omega
  · split
    · omega
    · omega
set_option maxHeartbeats 4000000 in
set_option maxRecDepth 100000 in
theorem strings_Cut.lite (a0 : ByteArray) (c : UInt8) (i : Int) (w : World) (hi : Lib.indexByte a0.data.toList c = i) (hs : a0.size ≤ 140737488351232) :
 Calls Tryd.prog 62 #[.string a0, .string ⟨#[c]⟩] w fun e w' => e = .returned (if 0 ≤ i then .tuple #[.string (a0.extract 0 i.toNat), .string (a0.extract (i.toNat + 1) a0.size), .bool true] else .tuple #[.string a0, .string ⟨#[]⟩, .bool false]) ∧ Drawn0 w w' := by
 have hl := strings_Cut.index_lt a0.data.toList c
 rw [hi] at hl
 have h1 := hl.1
 rw [Array.length_toList] at h1
 have h1 : i < (a0.size : Int) := h1
 have h2 := hl.2
 have HI := Aside0.mk hi
 clear hl hi
 by_cases h0 : 0 ≤ i
 · rw [if_pos h0]
   obtain ⟨n, rfl⟩ := Int.eq_ofNat_of_zero_le h0
   have h3 : n < a0.size := by omega
   have b0 : decide (0 ≤ (n : Int)) = true := decide_eq_true h0
   have e1 : IntKind.i64.wrap ((n : Int) + 1) = (n : Int) + 1 := IntWalk.i64_in _ (by omega)
   clear h2
   go_enter Tryd.func62, Tryd.ntmps62
   go_wp2_with (go_at_call 81; refine (Tryd.stringslite_Index_one a0 c _).mono ?_; rintro e w' ⟨rfl, rfl⟩; rw [HI.out])
   go_quiet (fail)
   go_wp2
   go_ret3
   exact ⟨by simp, dz_⟩
 · rw [if_neg h0]
   have b0 : decide (0 ≤ i) = false := decide_eq_false h0
   go_enter Tryd.func62, Tryd.ntmps62
   go_wp2_with (go_at_call 81; refine (Tryd.stringslite_Index_one a0 c _).mono ?_; rintro e w' ⟨rfl, rfl⟩; rw [HI.out])
   go_ret3
   exact ⟨rfl, dz_⟩
set_option maxHeartbeats 4000000 in
set_option maxRecDepth 100000 in
theorem strings_Cut.calls (a0 : ByteArray) (a1 : ByteArray) (r1 : ByteArray) (r2 : ByteArray) (r3 : Bool) (w : World) (h : strings_Cut.f a0 a1 = some (r1, r2, r3)) :
 Calls Tryd.prog 40 #[.string a0, .string a1] w fun e w' => e = .returned (.tuple #[.string r1, .string r2, .bool r3]) ∧ Drawn0 w w' := by
 unfold strings_Cut.f at h
 by_cases h1 : a1.size = 1 ∧ a0.size ≤ 140737488351232
 ·
  rw [if_pos h1] at h
  rw [strings_Cut.one a1 h1.1]
  have hs := h1.2
  clear h1
  generalize a1.get! 0 = c at *
  generalize hi : Lib.indexByte a0.data.toList c = i at *
  have HI := Aside0.mk hi
  clear hi
  have hv : (if 0 ≤ i then Value.tuple #[.string (a0.extract 0 i.toNat), .string (a0.extract (i.toNat + 1) a0.size), .bool true] else .tuple #[.string a0, .string ⟨#[]⟩, .bool false]) = .tuple #[.string r1, .string r2, .bool r3] := by
   by_cases h0 : 0 ≤ i
   · rw [if_pos h0] at h ⊢
     simp only [Option.some.injEq, Prod.mk.injEq] at h
     obtain ⟨rfl, rfl, rfl⟩ := h
     rfl
   · rw [if_neg h0] at h ⊢
     simp only [Option.some.injEq, Prod.mk.injEq] at h
     obtain ⟨rfl, rfl, rfl⟩ := h
     rfl
  have HV := Aside0.mk hv
  clear h hv
  go_enter Tryd.func40, Tryd.ntmps40
  go_wp2_with (go_at_call 62; refine (strings_Cut.lite a0 c i _ HI.out hs).mono ?_; rintro e w' ⟨rfl, ⟨nd, rfl⟩⟩; rw [HV.out])
  go_ret3
  exact ⟨rfl, dz_⟩
 · rw [if_neg h1] at h
   cases h


/-! ### sIx: function 41 -/
def sIx.l0 : Nat → List ByteArray → ByteArray → Int → Int → Option (Int)
 | 0, _, _, _, _ => none
 | k + 1, x0, x1, x7, x8 => if x8 < x7 then (if 0 ≤ x8 then (if x8 < (x0.length : Int) then (if x1.toList = (rdOf ByteArray.empty x0 x8).toList then (some x8) else (sIx.l0 k x0 x1 x7 (wrap64 (x8 + 1)))) else (none)) else (none)) else (some (-1))
def sIx.f (k : Nat) (l0 : List ByteArray) (a1 : ByteArray) : Option (Int) := sIx.l0 k l0 a1 (l0.length : Int) 0
theorem sIx.mono_l : ∀ k, (∀ y0 y1 y2 y3, LeO (sIx.l0 k y0 y1 y2 y3) (sIx.l0 (k + 1) y0 y1 y2 y3))
 | 0 => fun _ _ _ _ r h => by simp [sIx.l0] at h
 | k + 1 => by
  have ih0 := sIx.mono_l k
  · intro y0 y1 y2 y3
    unfold sIx.l0
    repeat' with_reducible first | exact ih0 _ _ _ _ | exact LeO.refl _ | exact LeO.none _ | refine LeO.ite ?_ ?_ | refine LeO.bind ?_ (fun _ => ?_)
theorem sIx.mono : ∀ a0 a1 k, LeO (sIx.f k a0 a1) (sIx.f (k + 1) a0 a1) := by
 intro a0 a1 k
 have ih0 := sIx.mono_l k
 unfold sIx.f
 repeat' with_reducible first | exact ih0 _ _ _ _ | exact LeO.refl _ | exact LeO.none _ | refine LeO.ite ?_ ?_ | refine LeO.bind ?_ (fun _ => ?_)
set_option maxHeartbeats 8000000 in
set_option maxRecDepth 100000 in
theorem sIx.calls (k : Nat) (A0 : Option Addr) (c0 : Nat) (l0 : List ByteArray) (a1 : ByteArray) (r : Int) (w : World) (hr0 : Kd.C Kd.string w A0 l0.length l0) (hc0 : l0.length ≤ c0) (h : sIx.f k l0 a1 = some r) :
 Calls Tryd.prog 41 #[.slice A0 l0.length c0, .string a1] w fun e w' => e = .returned (.int .i64 r) ∧ Drawn0 w w' := by
 have HR0 := Aside0.mk hr0
 have HC0 := Aside0.mk hc0
 clear hr0 hc0
 have H : (sIx.l0 k l0 a1 (l0.length : Int) 0) = some r := h
 clear h
 have H' := Aside0.mk H
 clear H
 go_enter Tryd.func41, Tryd.ntmps41
 go_wp2
 go_loopg [8] k (fun kq v8 w' => ∃ (x8_1 : Int), v8 = .int .i64 x8_1 ∧ Aside0 (sIx.l0 kq l0 a1 (l0.length : Int) x8_1 = some r) ∧ Aside0 (kq ≤ k) ∧ Drawn0 w w')
 case atStart => exact ⟨(0), ez_, H', ⟨Nat.le_refl _⟩, dz_⟩
 case round =>
  clear H'
  try clear p2
  obtain ⟨x8_1, rfl, HA, HK1, ⟨m1, rfl⟩⟩ := hrel
  cases gk with
  | zero => exact absurd HA.out (by simp [sIx.l0])
  | succ k1 =>
   have H := HA.out
   clear HA
   simp only [sIx.l0] at H
   by_cases c3 : x8_1 < (l0.length : Int)
   ·
    rw [if_pos c3] at H
    have c3b0 : decide (x8_1 < (l0.length : Int)) = true := decide_eq_true c3
    clear c3
    by_cases c4 : 0 ≤ x8_1
    ·
     rw [if_pos c4] at H
     have c4b0 : decide (0 ≤ x8_1) = true := decide_eq_true c4
     clear c4
     by_cases c5 : x8_1 < (l0.length : Int)
     ·
      rw [if_pos c5] at H
      have c5b0 : decide (x8_1 < (l0.length : Int)) = true := decide_eq_true c5
      clear c5
      by_cases c6 : a1.toList = (rdOf ByteArray.empty l0 x8_1).toList
      ·
       rw [if_pos c6] at H
       have c6b0 : (a1.toList == (rdOf ByteArray.empty l0 x8_1).toList) = true := beq_iff_eq.mpr c6
       have c6b1 : (a1.toList != (rdOf ByteArray.empty l0 x8_1).toList) = false := bne_eq_false_iff_eq.mpr c6
       clear c6
       obtain rfl := Option.some.inj H
       have p101 : 0 ≤ (x8_1 : Int) := of_decide_eq_true az_
       have q101 : x8_1 < (l0.length : Int) := of_decide_eq_true az_
       obtain ⟨ad101, e101, hx101_0⟩ := Kd.at_string HR0.out x8_1 p101 q101
       cases e101
       replace p101 := eq_true p101
       replace q101 := eq_true q101
       go_wp2
       go_ret
       exact ⟨ez_, dz_⟩
      ·
       rw [if_neg c6] at H
       have c6b0 : (a1.toList == (rdOf ByteArray.empty l0 x8_1).toList) = false := beq_eq_false_iff_ne.mpr c6
       have c6b1 : (a1.toList != (rdOf ByteArray.empty l0 x8_1).toList) = true := bne_iff_ne.mpr c6
       have H' := Aside0.mk H
       clear H
       have p101 : 0 ≤ (x8_1 : Int) := of_decide_eq_true az_
       have q101 : x8_1 < (l0.length : Int) := of_decide_eq_true az_
       obtain ⟨ad101, e101, hx101_0⟩ := Kd.at_string HR0.out x8_1 p101 q101
       cases e101
       replace p101 := eq_true p101
       replace q101 := eq_true q101
       go_wp2
       go_roundg k1
       case measure => have := HK1.out; omega
       case rel => exact ⟨(wrap64 (x8_1 + 1)), ez_, H', ⟨by have := HK1.out; omega⟩, dz_⟩
     · rw [if_neg c5] at H
       exact absurd H (by simp)
    · rw [if_neg c4] at H
      exact absurd H (by simp)
   · rw [if_neg c3] at H
     have c3b0 : decide (x8_1 < (l0.length : Int)) = false := decide_eq_false c3
     clear c3
     obtain rfl := Option.some.inj H
     go_wp2
     go_ret
     exact ⟨ez_, dz_⟩

/-! ### ob_kinds: function 42 -/
def ob_kinds.f  : Option (List ByteArray) := some (([(⟨#[]⟩ : ByteArray), (⟨#[98, 108, 111, 98]⟩ : ByteArray), (⟨#[116, 114, 101, 101]⟩ : ByteArray), (⟨#[99, 111, 109, 109, 105, 116]⟩ : ByteArray), (⟨#[116, 97, 103]⟩ : ByteArray)] : List ByteArray))
set_option maxHeartbeats 8000000 in
set_option maxRecDepth 100000 in
theorem ob_kinds.calls  (r : List ByteArray) (w : World) (h : ob_kinds.f  = some r) :
 Calls Tryd.prog 42 #[] w fun e w' => ∃ v0_ : Value, e = .returned (v0_) ∧ Kd.R Kd.string 9 w' w.heap.size (fun _ => True) v0_ r ∧ Below w.heap.size w w' := by
 have HB := Aside0.mk (Below.refl w.heap.size w)
 have H : (some (([(⟨#[]⟩ : ByteArray), (⟨#[98, 108, 111, 98]⟩ : ByteArray), (⟨#[116, 114, 101, 101]⟩ : ByteArray), (⟨#[99, 111, 109, 109, 105, 116]⟩ : ByteArray), (⟨#[116, 97, 103]⟩ : ByteArray)] : List ByteArray))) = some r := h
 clear h
 obtain ⟨y102, hy102⟩ : ∃ y_ : List ByteArray, y_ = (([(⟨#[]⟩ : ByteArray), (⟨#[98, 108, 111, 98]⟩ : ByteArray), (⟨#[116, 114, 101, 101]⟩ : ByteArray), (⟨#[99, 111, 109, 109, 105, 116]⟩ : ByteArray), (⟨#[116, 97, 103]⟩ : ByteArray)] : List ByteArray)) := ⟨_, rfl⟩
 replace H : (some y102) = some r := by first | (rw [hy102]; with_reducible exact H) | (have H2_ := (Option.bind_some _ _).symm.trans H; rw [hy102]; with_reducible exact H2_) | (have H2_ := (Option.bind_some _ _).symm.trans H; with_reducible exact H2_) | with_reducible exact H | (rw [hy102]; exact H) | exact H
 have Ny102 := Aside0.mk hy102
 clear hy102
 obtain rfl := Option.some.inj H
 go_enter Tryd.func42, Tryd.ntmps42
 go_wp2_with (first | ((with_reducible refine gate_dst (N := 1) rfl ?_); refine Kd.R_lit Kd.string _ 9 ?hg (N := 1) ?hd (xs := ([(⟨#[]⟩ : ByteArray), (⟨#[98, 108, 111, 98]⟩ : ByteArray), (⟨#[116, 114, 101, 101]⟩ : ByteArray), (⟨#[99, 111, 109, 109, 105, 116]⟩ : ByteArray), (⟨#[116, 97, 103]⟩ : ByteArray)] : List ByteArray)) (inner := [.string (⟨#[]⟩ : ByteArray), .string (⟨#[98, 108, 111, 98]⟩ : ByteArray), .string (⟨#[116, 114, 101, 101]⟩ : ByteArray), .string (⟨#[99, 111, 109, 109, 105, 116]⟩ : ByteArray), .string (⟨#[116, 97, 103]⟩ : ByteArray)]) (ok := fun _ => True) (okp := fun _ => True) ?hr ?hp (fun _ hk => hk) trivial (Below.refl _ _) (Nat.le_refl _) (by simp) ?_; (case hd => rfl); (case hg => rfl); (case hr => first | (go_simp; done) | (go_simp; rfl)); (case hp => exact (Reps.one (show Kd.M Kd.string _ _ _ (⟨#[]⟩ : ByteArray) [.string (⟨#[]⟩ : ByteArray)] from rfl) (Reps.one (show Kd.M Kd.string _ _ _ (⟨#[98, 108, 111, 98]⟩ : ByteArray) [.string (⟨#[98, 108, 111, 98]⟩ : ByteArray)] from rfl) (Reps.one (show Kd.M Kd.string _ _ _ (⟨#[116, 114, 101, 101]⟩ : ByteArray) [.string (⟨#[116, 114, 101, 101]⟩ : ByteArray)] from rfl) (Reps.one (show Kd.M Kd.string _ _ _ (⟨#[99, 111, 109, 109, 105, 116]⟩ : ByteArray) [.string (⟨#[99, 111, 109, 109, 105, 116]⟩ : ByteArray)] from rfl) (Reps.one (show Kd.M Kd.string _ _ _ (⟨#[116, 97, 103]⟩ : ByteArray) [.string (⟨#[116, 97, 103]⟩ : ByteArray)] from rfl) (Reps.none _ _))))))); intro v103 w1 ho2 hb hg_ hnew_; clear hg_ hnew_; (first | rw [← Ny102.out] at ho2 | (simp only [Int.reduceToNat] at ho2; rw [← Ny102.out] at ho2)); have n0_ := Aside0.mk (Kd.R_lower ho2 (below_size bz_)); have n1_ := Aside0.mk (below_step bz_ hb); clear HB; have HO104 := n0_; have HB := n1_; clear n0_ n1_; clear hb ho2))
 go_ret
 exact ⟨_, xz_, rz_ HO104.out, bz_⟩

end Go.Proofs.YtnapcfpecpgdbaaDoor.M
