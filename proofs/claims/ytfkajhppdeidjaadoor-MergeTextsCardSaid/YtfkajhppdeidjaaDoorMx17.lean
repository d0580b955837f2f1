/- The program's functions as plain functions, and that each call comes to what these tell; written by a program of this session, some contracts by hand. Conditions: none. -/
import Derived.Test.YtfkajhppdeidjaaDoorMx0
namespace Go.Proofs.YtfkajhppdeidjaaDoor.M
open Go.RowKit Go.Proofs.YtfkajhppdeidjaaDoorW.PrintWords Go.Proofs.YtfkajhppdeidjaaDoorW.PrintLast Go.Proofs.YtfkajhppdeidjaaDoorW.PrintMore
attribute [local go_sem] max2_int min2_int max_two min_two max_three min_three max_four min_four   -- for this text's walks alone
set_option linter.unusedVariables false
set_option linter.unusedSimpArgs false

/-! ### pollardref19_Text: function 16 (given by hand) -/
def pollardref19_Text.put : List ByteArray → ByteArray → Option ByteArray
 | [], s => some s
 | x :: l, s => if s.size + x.size ≤ 9223372036854775807 then pollardref19_Text.put l (s ++ x) else none
/-- What chunks come to, behind what there is; or a clash. -/
def pollardref19_Text.go : List (S33) → ByteArray → Option (ByteArray × Bool)
 | [], s => some (s, true)
 | x :: l, s => if x.f0 = 5 then some ((⟨#[]⟩ : ByteArray), false) else if x.f0 = 3 then (pollardref19_Text.put x.f3 s).bind fun t => pollardref19_Text.go l t else (pollardref19_Text.put x.f2 s).bind fun t => pollardref19_Text.go l t
def pollardref19_Text.f (l0 : List (S33)) : Option (ByteArray × Bool) := pollardref19_Text.go l0 (⟨#[]⟩ : ByteArray)
theorem pollardref19_Text.drop (l : List (S33)) (x : Int) (h0 : 0 ≤ x) (h1 : x < (l.length : Int)) : l.drop x.toNat = rd_T33 l x :: l.drop (x + 1).toNat := by
 have hl : x.toNat < l.length := by omega
 rw [List.drop_eq_getElem_cons hl, show (x + 1).toNat = x.toNat + 1 by omega]
 simp [rd_T33, List.getD, hl]
theorem pollardref19_Text.drop1 (l : List ByteArray) (x : Int) (h0 : 0 ≤ x) (h1 : x < (l.length : Int)) : l.drop x.toNat = rdOf ByteArray.empty l x :: l.drop (x + 1).toNat := by
 have hl : x.toNat < l.length := by omega
 rw [List.drop_eq_getElem_cons hl, show (x + 1).toNat = x.toNat + 1 by omega]
 simp [rdOf, List.getD, hl]
theorem pollardref19_Text.up {x : Int} {n : Nat} (h0 : 0 ≤ x) (h1 : x < (n : Int)) (hn : (n : Int) ≤ 9223372036854775807) : wrap64 (x + 1) = x + 1 := by
 unfold wrap64
 omega
theorem pollardref19_Text.len {α : Type} {d : Kd α} {w : World} {A : Option Addr} {xs : List α} (h : Kd.C d w A xs.length xs) : (xs.length : Int) ≤ 9223372036854775807 := by
 have := h.2.1
 omega
set_option maxHeartbeats 8000000 in
set_option maxRecDepth 100000 in
theorem pollardref19_Text.calls (A0 : Option Addr) (c0 : Nat) (l0 : List (S33)) (r1 : ByteArray) (r2 : Bool) (w : World) (hr0 : Kd.C k33 w A0 l0.length l0) (hc0 : l0.length ≤ c0) (h : pollardref19_Text.f l0 = some (r1, r2)) :
 Calls Tryd.prog 16 #[.slice A0 l0.length c0] w fun e w' => e = .returned (.tuple #[.string r1, .bool r2]) ∧ Drawn0 w w' := by
 have hu := Tryd.underlying33
 have HR := Aside0.mk hr0
 have HC := Aside0.mk hc0
 have H := Aside0.mk (show pollardref19_Text.go l0 (⟨#[]⟩ : ByteArray) = some (r1, r2) from h)
 have HN := Aside0.mk (pollardref19_Text.len hr0)
 clear hr0 hc0 h
 go_enter Tryd.func16, Tryd.ntmps16
 go_wp2
 go_loopw [4, 5] (fun v4 v5 wr => ∃ (s : ByteArray) (i : Int), v4 = .string s ∧ v5 = .int .i64 i ∧ 0 ≤ i ∧ i ≤ (l0.length : Int) ∧ Aside0 (pollardref19_Text.go (l0.drop i.toNat) s = some (r1, r2)) ∧ Drawn0 w wr) (fun v4 v5 _ => l0.length - (intOf v5).toNat)
 case atStart => exact ⟨_, 0, rfl, rfl, Int.le_refl _, Int.natCast_nonneg _, H, by repeat (first | exact Drawn0.refl _ | apply Drawn0.step)⟩
 case round =>
  clear H
  obtain ⟨s, i, rfl, rfl, h0, h1, HA, ⟨m1, rfl⟩⟩ := hrel
  by_cases hlt : i < (l0.length : Int)
  ·
   have hA := HA.out
   rw [pollardref19_Text.drop l0 i h0 hlt] at hA
   have hw := Aside0.mk (pollardref19_Text.up h0 hlt HN.out)
   obtain ⟨ad, A1, c1, A2, c2, A3, c3, e, x0, x1, x2, x3, l1, g1, l2, g2, l3, g3⟩ := at_T33 HR.out i h0 hlt
   subst e
   generalize rd_T33 l0 i = ch at *
   clear HA
   simp only [pollardref19_Text.go] at hA
   have L1 := Aside0.mk l1
   have L2 := Aside0.mk l2
   have L3 := Aside0.mk l3
   have G2 := Aside0.mk g2
   have G3 := Aside0.mk g3
   clear l1 l2 l3 g1 g2 g3
   by_cases c5 : ch.f0 = 5
   · rw [if_pos c5] at hA
     have hA := Option.some.inj hA
     rw [Prod.mk.injEq] at hA
     have Z := Aside0.mk hA
     clear hA
     have b3 : (ch.f0 == 3) = false := beq_eq_false_iff_ne.mpr (by omega)
     have b5 : (ch.f0 == 5) = true := beq_iff_eq.mpr c5
     clear c5
     go_wp2
     go_ret2
     rw [← Z.out.1, ← Z.out.2]
     exact ⟨rfl, by repeat (first | exact Drawn0.refl _ | apply Drawn0.step)⟩
   ·
    rw [if_neg c5] at hA
    have b5 : (ch.f0 == 5) = false := beq_eq_false_iff_ne.mpr c5
    clear c5
    by_cases c3_ : ch.f0 = 3
    ·
     rw [if_pos c3_] at hA
     have b3 : (ch.f0 == 3) = true := beq_iff_eq.mpr c3_
     clear c3_
     have HA := Aside0.mk hA
     have HM := Aside0.mk (pollardref19_Text.len G3.out)
     clear hA
     go_wp2
     go_loopw [4, 7] (fun v4 v7 wr => ∃ (t : ByteArray) (j : Int), v4 = .string t ∧ v7 = .int .i64 j ∧ 0 ≤ j ∧ j ≤ (ch.f3.length : Int) ∧ Aside0 ((pollardref19_Text.put (ch.f3.drop j.toNat) t).bind (fun t => pollardref19_Text.go (l0.drop (i + 1).toNat) t) = some (r1, r2)) ∧ Drawn0 w wr) (fun v4 v7 _ => ch.f3.length - (intOf v7).toNat)
     case atStart => exact ⟨_, 0, rfl, rfl, Int.le_refl _, Int.natCast_nonneg _, HA, by repeat (first | exact Drawn0.refl _ | apply Drawn0.step)⟩
     case round =>
      clear HA
      obtain ⟨t, j, rfl, rfl, j0, j1, HA, ⟨m2, rfl⟩⟩ := hrel
      by_cases jlt : j < (ch.f3.length : Int)
      ·
       have hA := HA.out
       have jw := Aside0.mk (pollardref19_Text.up j0 jlt HM.out)
       rw [pollardref19_Text.drop1 ch.f3 j j0 jlt, pollardref19_Text.put] at hA
       obtain ⟨ad2, e2, y0⟩ := Kd.at_string G3.out j j0 jlt
       cases e2
       clear HA
       by_cases hs : t.size + (rdOf ByteArray.empty ch.f3 j).size ≤ 9223372036854775807
       · rw [if_pos hs] at hA
         have HA := Aside0.mk hA
         clear hA
         go_wp2
         go_roundw
         case rel => exact ⟨_, wrap64 (j + 1), rfl, rfl, by rw [jw.out]; omega, by rw [jw.out]; omega, by rw [jw.out]; exact HA, by repeat (first | exact Drawn0.refl _ | apply Drawn0.step)⟩
         case measure =>
          have := jw.out
          simp [intOf]
          omega
       · rw [if_neg hs] at hA
         cases hA
      · have hx : j = (ch.f3.length : Int) := by omega
        have hA := HA.out
        rw [hx, Int.toNat_natCast, List.drop_length] at hA
        have HA2 : Aside0 (pollardref19_Text.go (l0.drop (i + 1).toNat) t = some (r1, r2)) := ⟨hA⟩
        clear HA hA hx
        go_wp2
        go_roundw
        case rel => exact ⟨_, wrap64 (i + 1), rfl, rfl, by rw [hw.out]; omega, by rw [hw.out]; omega, by rw [hw.out]; exact HA2, by repeat (first | exact Drawn0.refl _ | apply Drawn0.step)⟩
        case measure =>
         have := hw.out
         simp [intOf]
         omega
    ·
     rw [if_neg c3_] at hA
     have b3 : (ch.f0 == 3) = false := beq_eq_false_iff_ne.mpr c3_
     clear c3_
     have HA := Aside0.mk hA
     have HM := Aside0.mk (pollardref19_Text.len G2.out)
     clear hA
     go_wp2
     go_loopw [4, 7] (fun v4 v7 wr => ∃ (t : ByteArray) (j : Int), v4 = .string t ∧ v7 = .int .i64 j ∧ 0 ≤ j ∧ j ≤ (ch.f2.length : Int) ∧ Aside0 ((pollardref19_Text.put (ch.f2.drop j.toNat) t).bind (fun t => pollardref19_Text.go (l0.drop (i + 1).toNat) t) = some (r1, r2)) ∧ Drawn0 w wr) (fun v4 v7 _ => ch.f2.length - (intOf v7).toNat)
     case atStart => exact ⟨_, 0, rfl, rfl, Int.le_refl _, Int.natCast_nonneg _, HA, by repeat (first | exact Drawn0.refl _ | apply Drawn0.step)⟩
     case round =>
      clear HA
      obtain ⟨t, j, rfl, rfl, j0, j1, HA, ⟨m2, rfl⟩⟩ := hrel
      by_cases jlt : j < (ch.f2.length : Int)
      ·
       have hA := HA.out
       have jw := Aside0.mk (pollardref19_Text.up j0 jlt HM.out)
       rw [pollardref19_Text.drop1 ch.f2 j j0 jlt, pollardref19_Text.put] at hA
       obtain ⟨ad2, e2, y0⟩ := Kd.at_string G2.out j j0 jlt
       cases e2
       clear HA
       by_cases hs : t.size + (rdOf ByteArray.empty ch.f2 j).size ≤ 9223372036854775807
       · rw [if_pos hs] at hA
         have HA := Aside0.mk hA
         clear hA
         go_wp2
         go_roundw
         case rel => exact ⟨_, wrap64 (j + 1), rfl, rfl, by rw [jw.out]; omega, by rw [jw.out]; omega, by rw [jw.out]; exact HA, by repeat (first | exact Drawn0.refl _ | apply Drawn0.step)⟩
         case measure =>
          have := jw.out
          simp [intOf]
          omega
       · rw [if_neg hs] at hA
         cases hA
      · have hx : j = (ch.f2.length : Int) := by omega
        have hA := HA.out
        rw [hx, Int.toNat_natCast, List.drop_length] at hA
        have HA2 : Aside0 (pollardref19_Text.go (l0.drop (i + 1).toNat) t = some (r1, r2)) := ⟨hA⟩
        clear HA hA hx
        go_wp2
        go_roundw
        case rel => exact ⟨_, wrap64 (i + 1), rfl, rfl, by rw [hw.out]; omega, by rw [hw.out]; omega, by rw [hw.out]; exact HA2, by repeat (first | exact Drawn0.refl _ | apply Drawn0.step)⟩
        case measure =>
         have := hw.out
         simp [intOf]
         omega
  · have hx : i = (l0.length : Int) := by omega
    have hA := HA.out
    rw [hx, Int.toNat_natCast, List.drop_length] at hA
    have hA := Option.some.inj hA
    rw [Prod.mk.injEq] at hA
    have Z := Aside0.mk hA
    clear HA hx hA
    go_wp2
    go_ret2
    rw [← Z.out.1, ← Z.out.2]
    exact ⟨rfl, by repeat (first | exact Drawn0.refl _ | apply Drawn0.step)⟩


end Go.Proofs.YtfkajhppdeidjaaDoor.M
