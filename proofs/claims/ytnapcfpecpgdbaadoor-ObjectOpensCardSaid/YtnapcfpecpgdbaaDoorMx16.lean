/- The program's functions as plain functions, and that each call comes to what these tell; written by a program of this session, some contracts by hand. Conditions: none. -/
import Derived.Test.YtnapcfpecpgdbaaDoorMx0
import Derived.Test.YtnapcfpecpgdbaaDoorMx15
namespace Go.Proofs.YtnapcfpecpgdbaaDoor.M
open Go.RowKit Go.Proofs.YtnapcfpecpgdbaaDoorW.PrintWords Go.Proofs.YtnapcfpecpgdbaaDoorW.PrintLast Go.Proofs.YtnapcfpecpgdbaaDoorW.PrintMore
attribute [local go_sem] max2_int min2_int max_two min_two max_three min_three max_four min_four   -- for this text's walks alone
set_option linter.unusedVariables false
set_option linter.unusedSimpArgs false

/-! ### r5_Name: function 54 -/
mutual
def r5_Name.j0 : Nat → ByteArray → Bool → Option (Bool)
 | 0, _, _ => none
 | k + 1, x0, x19 => if x19 = true then (some false) else (r5_Name.l0 k x0)
def r5_Name.l0 : Nat → ByteArray → Option (Bool)
 | 0, _ => none
 | k + 1, x0 => if (x0.size : Int) > 0 then ((r5_first.f k x0).bind fun bt265 => (if bt265.1 < 32 then (some false) else (if bt265.1 = 47 then (some false) else (if bt265.1 ≥ 127 then (if bt265.1 ≤ 159 then (some false) else (if bt265.1 = 65533 then (some false) else (if 0 ≤ bt265.2 then (if bt265.2 ≤ (x0.size : Int) then (r5_Name.l0 k (x0.extract (bt265.2 : Int).toNat x0.size)) else (none)) else (none)))) else (if bt265.1 = 65533 then (some false) else (if 0 ≤ bt265.2 then (if bt265.2 ≤ (x0.size : Int) then (r5_Name.l0 k (x0.extract (bt265.2 : Int).toNat x0.size)) else (none)) else (none))))))) else (some true)
end
def r5_Name.f (k : Nat) (a0 : ByteArray) : Option (Bool) := if a0.toList = ([] : List UInt8) then (r5_Name.j0 k a0 true) else (if (a0.size : Int) > 64 then (r5_Name.j0 k a0 true) else (if a0.toList = ([46] : List UInt8) then (r5_Name.j0 k a0 true) else (r5_Name.j0 k a0 (a0.toList == ([46, 46] : List UInt8)))))
theorem r5_Name.mono_l : ∀ k, (∀ y0 y1, LeO (r5_Name.j0 k y0 y1) (r5_Name.j0 (k + 1) y0 y1)) ∧ (∀ y0, LeO (r5_Name.l0 k y0) (r5_Name.l0 (k + 1) y0))
 | 0 => ⟨fun _ _ r h => by simp [r5_Name.j0] at h, fun _ r h => by simp [r5_Name.l0] at h⟩
 | k + 1 => by
  obtain ⟨ih0, ih1⟩ := r5_Name.mono_l k
  refine ⟨?_, ?_⟩
  all_goals (intros; first | unfold r5_Name.j0 | unfold r5_Name.l0)
  all_goals repeat' with_reducible first | exact ih0 _ _ | exact ih1 _ | exact r5_first.mono _ _ | exact LeO.refl _ | exact LeO.none _ | refine LeO.ite ?_ ?_ | refine LeO.bind ?_ (fun _ => ?_)
theorem r5_Name.mono : ∀ a0 k, LeO (r5_Name.f k a0) (r5_Name.f (k + 1) a0) := by
 intro a0 k
 obtain ⟨ih0, ih1⟩ := r5_Name.mono_l k
 unfold r5_Name.f
 repeat' with_reducible first | exact ih0 _ _ | exact ih1 _ | exact r5_first.mono _ _ | exact LeO.refl _ | exact LeO.none _ | refine LeO.ite ?_ ?_ | refine LeO.bind ?_ (fun _ => ?_)
set_option maxHeartbeats 8000000 in
set_option maxRecDepth 100000 in
theorem r5_Name.calls (k : Nat) (a0 : ByteArray) (r : Bool) (w : World) (h : r5_Name.f k a0 = some r) :
 Calls Tryd.prog 54 #[.string a0] w fun e w' => e = .returned (.bool r) ∧ Drawn0 w w' := by
 have H : (if a0.toList = ([] : List UInt8) then (r5_Name.j0 k a0 true) else (if (a0.size : Int) > 64 then (r5_Name.j0 k a0 true) else (if a0.toList = ([46] : List UInt8) then (r5_Name.j0 k a0 true) else (r5_Name.j0 k a0 (a0.toList == ([46, 46] : List UInt8)))))) = some r := h
 clear h
 have HC2 := Aside0.mk H
 clear H
 go_enter Tryd.func54, Tryd.ntmps54
 go_upto_region 1 with (fail)
 go_cut [19] (fun v19 wc => ∃ (kq : Nat) (x19_1 : Bool), v19 = .bool x19_1 ∧ Aside0 (r5_Name.j0 kq a0 x19_1 = some r) ∧ Aside0 (kq ≤ k) ∧ Drawn0 w wc)
 case first =>
  have H := HC2.out
  clear HC2
  by_cases c3 : a0.toList = ([] : List UInt8)
  · rw [if_pos c3] at H
    have c3b0 : (a0.toList == ([] : List UInt8)) = true := beq_iff_eq.mpr c3
    have c3b1 : (a0.toList != ([] : List UInt8)) = false := bne_eq_false_iff_eq.mpr c3
    clear c3
    (first | rw [c3b0] | (simp only [i64_w, i32_w]; rw [c3b0]) | skip)
    have H' := Aside0.mk H
    clear H
    go_wp2
    go_meet
    case rel => exact ⟨_, (true), ez_, H', ⟨by first | omega | exact Nat.le_refl _⟩, dz_⟩
  ·
   rw [if_neg c3] at H
   have c3b0 : (a0.toList == ([] : List UInt8)) = false := beq_eq_false_iff_ne.mpr c3
   have c3b1 : (a0.toList != ([] : List UInt8)) = true := bne_iff_ne.mpr c3
   (first | rw [c3b0] | (simp only [i64_w, i32_w]; rw [c3b0]) | skip)
   by_cases c4 : (a0.size : Int) > 64
   · rw [if_pos c4] at H
     have c4b0 : decide (64 < (a0.size : Int)) = true := decide_eq_true c4
     have c4b1 : decide (64 < a0.size) = true := decide_eq_true (by omega)
     clear c4
     have H' := Aside0.mk H
     clear H
     go_wp2
     go_meet
     case rel => exact ⟨_, (true), ez_, H', ⟨by first | omega | exact Nat.le_refl _⟩, dz_⟩
   ·
    rw [if_neg c4] at H
    have c4b0 : decide (64 < (a0.size : Int)) = false := decide_eq_false c4
    have c4b1 : decide (64 < a0.size) = false := decide_eq_false (by omega)
    clear c4
    by_cases c5 : a0.toList = ([46] : List UInt8)
    · rw [if_pos c5] at H
      have c5b0 : (a0.toList == ([46] : List UInt8)) = true := beq_iff_eq.mpr c5
      have c5b1 : (a0.toList != ([46] : List UInt8)) = false := bne_eq_false_iff_eq.mpr c5
      clear c5
      have H' := Aside0.mk H
      clear H
      go_wp2
      go_meet
      case rel => exact ⟨_, (true), ez_, H', ⟨by first | omega | exact Nat.le_refl _⟩, dz_⟩
    · rw [if_neg c5] at H
      have c5b0 : (a0.toList == ([46] : List UInt8)) = false := beq_eq_false_iff_ne.mpr c5
      have c5b1 : (a0.toList != ([46] : List UInt8)) = true := bne_iff_ne.mpr c5
      have H' := Aside0.mk H
      clear H
      go_wp2
      go_meet
      case rel => exact ⟨_, ((a0.toList == ([46, 46] : List UInt8))), ez_, H', ⟨by first | omega | exact Nat.le_refl _⟩, dz_⟩
 case rest =>
  clear HC2
  try clear p2
  try clear c3
  try clear c3b0
  try clear c3b1
  try clear c4
  try clear c4b0
  try clear c4b1
  try clear c5
  try clear c5b0
  try clear c5b1
  obtain ⟨kq, x19_1, rfl, HA, HJ1, ⟨mc1, rfl⟩⟩ := hcut
  cases kq with
  | zero => exact absurd HA.out (by simp [r5_Name.j0])
  | succ kj1 =>
   have H := HA.out
   clear HA
   simp only [r5_Name.j0] at H
   by_cases c6 : x19_1 = true
   · subst c6
     have H1 := H
     rw [if_pos rfl] at H1
     clear H
     have H := H1
     clear H1
     obtain rfl := Option.some.inj H
     go_wp2
     go_ret
     exact ⟨ez_, dz_⟩
   ·
    replace c6 := Bool.eq_false_iff.mpr c6
    subst c6
    have H1 := H
    rw [if_neg (show ¬ (false = true) by decide)] at H1
    clear H
    have H := H1
    clear H1
    have H' := Aside0.mk H
    clear H
    go_wp2
    go_loopg [0] kj1 (fun kq v0 w' => ∃ (x0_2 : ByteArray), v0 = .string x0_2 ∧ Aside0 (r5_Name.l0 kq x0_2 = some r) ∧ Aside0 (kq ≤ kj1) ∧ Drawn0 w w')
    case atStart => exact ⟨(a0), ez_, H', ⟨Nat.le_refl _⟩, dz_⟩
    case round =>
     clear H'
     try clear c1
     try clear p2
     try clear c3
     try clear c3b0
     try clear c3b1
     try clear c4
     try clear c4b0
     try clear c4b1
     try clear c5
     try clear c5b0
     try clear c5b1
     try clear c6
     try clear p2
     obtain ⟨x0_2, rfl, HA, HK2, ⟨m2, rfl⟩⟩ := hrel
     cases gk with
     | zero => exact absurd HA.out (by simp [r5_Name.l0])
     | succ k2 =>
      have H := HA.out
      clear HA
      simp only [r5_Name.l0] at H
      by_cases c7 : (x0_2.size : Int) > 0
      ·
       rw [if_pos c7] at H
       have c7b0 : decide (0 < (x0_2.size : Int)) = true := decide_eq_true c7
       have c7b1 : decide (0 < x0_2.size) = true := decide_eq_true (by omega)
       clear c7
       replace H := Option.bind_eq_some_iff.mp H
       obtain ⟨⟨t265, t266⟩, A80, H⟩ := H
       try dsimp only at H
       have A8 := Aside0.mk A80
       clear A80
       by_cases c9 : t265 < 32
       · rw [if_pos c9] at H
         have c9b0 : decide (t265 < 32) = true := decide_eq_true c9
         clear c9
         obtain rfl := Option.some.inj H
         go_wp2_with (first | ((with_reducible refine gate_callee (f := 76) rfl ?_); refine goesM_ (some 25) Tryd.func76 #[.string x0_2] ?_; (with_reducible refine (r5_first.calls k2 x0_2 t265 t266 _ A8.out).mono ?_); rintro e w' ⟨rfl, ⟨nd, rfl⟩⟩; refine ⟨_, rfl, ?_⟩))
         go_ret
         exact ⟨ez_, dz_⟩
       ·
        rw [if_neg c9] at H
        have c9b0 : decide (t265 < 32) = false := decide_eq_false c9
        clear c9
        by_cases c10 : t265 = 47
        · rw [if_pos c10] at H
          have c10b0 : (t265 == 47) = true := beq_iff_eq.mpr c10
          have c10b1 : (t265 != 47) = false := bne_eq_false_iff_eq.mpr c10
          clear c10
          obtain rfl := Option.some.inj H
          go_wp2_with (first | ((with_reducible refine gate_callee (f := 76) rfl ?_); refine goesM_ (some 25) Tryd.func76 #[.string x0_2] ?_; (with_reducible refine (r5_first.calls k2 x0_2 t265 t266 _ A8.out).mono ?_); rintro e w' ⟨rfl, ⟨nd, rfl⟩⟩; refine ⟨_, rfl, ?_⟩))
          go_ret
          exact ⟨ez_, dz_⟩
        ·
         rw [if_neg c10] at H
         have c10b0 : (t265 == 47) = false := beq_eq_false_iff_ne.mpr c10
         have c10b1 : (t265 != 47) = true := bne_iff_ne.mpr c10
         by_cases c11 : t265 ≥ 127
         ·
          rw [if_pos c11] at H
          have c11b0 : decide (127 ≤ t265) = true := decide_eq_true c11
          clear c11
          by_cases c12 : t265 ≤ 159
          · rw [if_pos c12] at H
            have c12b0 : decide (t265 ≤ 159) = true := decide_eq_true c12
            clear c12
            obtain rfl := Option.some.inj H
            go_wp2_with (first | ((with_reducible refine gate_callee (f := 76) rfl ?_); refine goesM_ (some 25) Tryd.func76 #[.string x0_2] ?_; (with_reducible refine (r5_first.calls k2 x0_2 t265 t266 _ A8.out).mono ?_); rintro e w' ⟨rfl, ⟨nd, rfl⟩⟩; refine ⟨_, rfl, ?_⟩))
            go_ret
            exact ⟨ez_, dz_⟩
          ·
           rw [if_neg c12] at H
           have c12b0 : decide (t265 ≤ 159) = false := decide_eq_false c12
           clear c12
           by_cases c13 : t265 = 65533
           · rw [if_pos c13] at H
             have c13b0 : (t265 == 65533) = true := beq_iff_eq.mpr c13
             have c13b1 : (t265 != 65533) = false := bne_eq_false_iff_eq.mpr c13
             clear c13
             obtain rfl := Option.some.inj H
             go_wp2_with (first | ((with_reducible refine gate_callee (f := 76) rfl ?_); refine goesM_ (some 25) Tryd.func76 #[.string x0_2] ?_; (with_reducible refine (r5_first.calls k2 x0_2 t265 t266 _ A8.out).mono ?_); rintro e w' ⟨rfl, ⟨nd, rfl⟩⟩; refine ⟨_, rfl, ?_⟩))
             go_ret
             exact ⟨ez_, dz_⟩
           ·
            rw [if_neg c13] at H
            have c13b0 : (t265 == 65533) = false := beq_eq_false_iff_ne.mpr c13
            have c13b1 : (t265 != 65533) = true := bne_iff_ne.mpr c13
            by_cases c14 : 0 ≤ t266
            ·
             rw [if_pos c14] at H
             have c14b0 := eq_true c14
             have c14b1 : decide (0 ≤ t266) = true := decide_eq_true c14
             clear c14
             by_cases c15 : t266 ≤ (x0_2.size : Int)
             · rw [if_pos c15] at H
               have c15b0 := eq_true c15
               have c15b1 : decide (t266 ≤ (x0_2.size : Int)) = true := decide_eq_true c15
               clear c15
               have H' := Aside0.mk H
               clear H
               go_wp2_with (first | ((with_reducible refine gate_callee (f := 76) rfl ?_); refine goesM_ (some 25) Tryd.func76 #[.string x0_2] ?_; (with_reducible refine (r5_first.calls k2 x0_2 t265 t266 _ A8.out).mono ?_); rintro e w' ⟨rfl, ⟨nd, rfl⟩⟩; refine ⟨_, rfl, ?_⟩))
               go_roundg k2
               case measure => have := HJ1.out; have := HK2.out; omega
               case rel => exact ⟨(x0_2.extract (t266 : Int).toNat x0_2.size), ez_, H', ⟨by have := HJ1.out; have := HK2.out; omega⟩, dz_⟩
             · rw [if_neg c15] at H
               exact absurd H (by simp)
            · rw [if_neg c14] at H
              exact absurd H (by simp)
         ·
          rw [if_neg c11] at H
          have c11b0 : decide (127 ≤ t265) = false := decide_eq_false c11
          clear c11
          by_cases c16 : t265 = 65533
          · rw [if_pos c16] at H
            have c16b0 : (t265 == 65533) = true := beq_iff_eq.mpr c16
            have c16b1 : (t265 != 65533) = false := bne_eq_false_iff_eq.mpr c16
            clear c16
            obtain rfl := Option.some.inj H
            go_wp2_with (first | ((with_reducible refine gate_callee (f := 76) rfl ?_); refine goesM_ (some 25) Tryd.func76 #[.string x0_2] ?_; (with_reducible refine (r5_first.calls k2 x0_2 t265 t266 _ A8.out).mono ?_); rintro e w' ⟨rfl, ⟨nd, rfl⟩⟩; refine ⟨_, rfl, ?_⟩))
            go_ret
            exact ⟨ez_, dz_⟩
          ·
           rw [if_neg c16] at H
           have c16b0 : (t265 == 65533) = false := beq_eq_false_iff_ne.mpr c16
           have c16b1 : (t265 != 65533) = true := bne_iff_ne.mpr c16
           by_cases c17 : 0 ≤ t266
           ·
            rw [if_pos c17] at H
            have c17b0 := eq_true c17
            have c17b1 : decide (0 ≤ t266) = true := decide_eq_true c17
            clear c17
            by_cases c18 : t266 ≤ (x0_2.size : Int)
            · rw [if_pos c18] at H
              have c18b0 := eq_true c18
              have c18b1 : decide (t266 ≤ (x0_2.size : Int)) = true := decide_eq_true c18
              clear c18
              have H' := Aside0.mk H
              clear H
              go_wp2_with (first | ((with_reducible refine gate_callee (f := 76) rfl ?_); refine goesM_ (some 25) Tryd.func76 #[.string x0_2] ?_; (with_reducible refine (r5_first.calls k2 x0_2 t265 t266 _ A8.out).mono ?_); rintro e w' ⟨rfl, ⟨nd, rfl⟩⟩; refine ⟨_, rfl, ?_⟩))
              go_roundg k2
              case measure => have := HJ1.out; have := HK2.out; omega
              case rel => exact ⟨(x0_2.extract (t266 : Int).toNat x0_2.size), ez_, H', ⟨by have := HJ1.out; have := HK2.out; omega⟩, dz_⟩
            · rw [if_neg c18] at H
              exact absurd H (by simp)
           · rw [if_neg c17] at H
             exact absurd H (by simp)
      · rw [if_neg c7] at H
        have c7b0 : decide (0 < (x0_2.size : Int)) = false := decide_eq_false c7
        have c7b1 : decide (0 < x0_2.size) = false := decide_eq_false (by omega)
        clear c7
        obtain rfl := Option.some.inj H
        go_wp2
        go_ret
        exact ⟨ez_, dz_⟩

/-! ### r7_author: function 31 (given by hand) -/
/-- A text, '-' for each '/'. -/
def r7_author.rep (l : List UInt8) : List UInt8 := l.map fun x => if x = 47 then 45 else x
def r7_author.f (k : Nat) (a0 : ByteArray) : Option Bool := if a0.size ≤ 1000000 then r5_Name.f k ⟨(r7_author.rep a0.data.toList).toArray⟩ else none
theorem r7_author.mono : ∀ a0 k, LeO (r7_author.f k a0) (r7_author.f (k + 1) a0) := by
 intro a0 k
 unfold r7_author.f
 exact LeO.ite (r5_Name.mono _ _) (LeO.none _)
/-- A row of bytes that bears a conversion's mark behind its end. -/
def r7_author.Row (W : World) (g N : Nat) (xs : List Int) : Prop := ∃ cur : Array Value, W.heap[g]? = some (.cells cur 5 (N, N + 1)) ∧ cur.size = N ∧ xs.length ≤ N ∧ ∀ t, t < xs.length → cur[t]? = some (.int .u8 (xs.getD t 0))
theorem r7_author.Row.cell {W : World} {g N : Nat} {xs : List Int} (h : r7_author.Row W g N xs) (t : Nat) (ht : t < xs.length) : W.cell? ⟨g, t, none⟩ = some (.int .u8 (xs.getD t 0)) := by
 obtain ⟨cur, h1, h2, h3, h4⟩ := h
 simp [World.cell?, h1, h4 t ht]
theorem r7_author.Row.free {W : World} {g N : Nat} {xs : List Int} (h : r7_author.Row W g N xs) (t : Nat) (ht : t < xs.length) : W.frozen? ⟨g, t, none⟩ = false := by
 obtain ⟨cur, h1, h2, h3, h4⟩ := h
 simp [World.frozen?, h1]
 omega
theorem r7_author.Row.put {W : World} {g N : Nat} {xs : List Int} (h : r7_author.Row W g N xs) (t : Nat) (ht : t < xs.length) (v : Int) : r7_author.Row (W.setCell ⟨g, t, none⟩ (.int .u8 v)) g N (xs.set t v) := by
 obtain ⟨cur, h1, h2, h3, h4⟩ := h
 refine ⟨cur.setIfInBounds t (.int .u8 v), by simp [World.setCell, Array.getElem?_modify, h1], by simpa using h2, by simpa using h3, ?_⟩
 intro i hi
 rw [List.length_set] at hi
 rw [Array.getElem?_setIfInBounds]
 by_cases he : t = i
 · subst he
   rw [if_pos rfl, if_pos (by omega)]
   simp [List.getD_eq_getElem?_getD, hi]
 · rw [if_neg he, h4 i hi]
   simp [List.getD_eq_getElem?_getD, List.getElem?_set, he]
theorem r7_author.Row.reads {W : World} {g N : Nat} {xs : List Int} (h : r7_author.Row W g N xs) (hl : xs.length ≤ 1000000) : ReadsInt W .u8 (some ⟨g, 0, none⟩) xs.length xs := by
 refine ⟨rfl, by omega, fun _ => ⟨_, rfl, fun t ht => ?_⟩⟩
 rw [add_plain]
 exact h.cell t ht
def r7_author.ints (l : List UInt8) : List Int := l.map fun b => (b.toNat : Int)
theorem r7_author.first (w : World) (s : ByteArray) : r7_author.Row (Lib.bytesWorld w 5 s) w.heap.size (Lib.bytesCells w 5 s).size (r7_author.ints s.data.toList) := by
 have hl : (r7_author.ints s.data.toList).length = s.size := by rw [r7_author.ints, List.length_map, Array.length_toList]; rfl
 refine ⟨Lib.bytesCells w 5 s, Lib.bytesWorld_at_new w 5 s, rfl, ?_, ?_⟩
 · rw [hl]
   simp [Lib.bytesCells]
 · intro t ht
   rw [hl] at ht
   have hc := Lib.bytesWorld_cell w 5 s t ht
   have hn := Lib.bytesWorld_at_new w 5 s
   simp only [World.cell?, hn] at hc
   have h2 : t < s.data.toList.length := by rw [Array.length_toList]; exact ht
   have h3 : (r7_author.ints s.data.toList).getD t 0 = ((s.data.toList.getD t 0).toNat : Int) := by
    rw [List.getD_eq_getElem?_getD, List.getD_eq_getElem?_getD, r7_author.ints, List.getElem?_map, List.getElem?_eq_getElem h2]
    rfl
   rw [h3]
   simpa using hc
set_option maxHeartbeats 4000000 in
set_option maxRecDepth 100000 in
theorem r7_author.calls (k : Nat) (a0 : ByteArray) (r : Bool) (w : World) (h : r7_author.f k a0 = some r) :
 Calls Tryd.prog 31 #[.string a0] w fun e w' => e = .returned (.bool r) ∧ Below w.heap.size w w' := by
 unfold r7_author.f at h
 by_cases hs : a0.size ≤ 1000000
 ·
  rw [if_pos hs] at h
  have HN := Aside0.mk h
  have HS := Aside0.mk hs
  have kb := fun W => print_bytes (P := Tryd.prog) 9 91 5 Tryd.underlying9 Tryd.underlying91 Tryd.underlying5 a0 W
  have HR := Aside0.mk (r7_author.first w a0)
  have HB := Aside0.mk (bytes_below (Below.refl w.heap.size w) (Nat.le_refl _) 5 a0)
  clear h
  go_enter Tryd.func31, Tryd.ntmps31
  go_wp2_with fail
  clear kb
  generalize Lib.bytesWorld w 5 a0 = W1 at *
  generalize (Lib.bytesCells w 5 a0).size = N at *
  generalize grownCap w a0.size 0 5 = gc at *
  have hll : a0.data.toList.length = a0.size := by rw [Array.length_toList]; rfl
  have LL := Aside0.mk hll
  have HR0 : Aside0 (r7_author.Row W1 w.heap.size N (r7_author.ints (r7_author.rep (a0.data.toList.take 0) ++ a0.data.toList.drop 0))) := ⟨by simpa [r7_author.rep] using HR.out⟩
  clear HR hll
  go_loopw [4] (fun u4 wr => ∃ i : Nat, u4 = .int .i64 i ∧ i ≤ a0.size ∧ Aside0 (r7_author.Row wr w.heap.size N (r7_author.ints (r7_author.rep (a0.data.toList.take i) ++ a0.data.toList.drop i))) ∧ Aside0 (Below w.heap.size w wr)) (fun u4 _ => a0.size - (intOf u4).toNat)
  case atStart => exact ⟨0, rfl, by omega, HR0, HB⟩
  case round =>
   clear HR0 HB
   obtain ⟨i, rfl, hi, HR, HB⟩ := hrel
   have hs2 := HS.out
   have hxl : (r7_author.ints (r7_author.rep (a0.data.toList.take i) ++ a0.data.toList.drop i)).length = a0.size := by
    have := LL.out
    simp only [r7_author.ints, r7_author.rep, List.length_map, List.length_append, List.length_take, List.length_drop]
    omega
   by_cases hlt : i < a0.size
   ·
    have hltI : (i : Int) < (a0.size : Int) := by omega
    have hlt2 : i < a0.data.toList.length := by rw [LL.out]; exact hlt
    have hpre : (r7_author.rep (a0.data.toList.take i)).length = i := by
     simp only [r7_author.rep, List.length_map, List.length_take]
     omega
    have hdrop : a0.data.toList.drop i = a0.data.toList[i] :: a0.data.toList.drop (i + 1) := List.drop_eq_getElem_cons hlt2
    have htake : a0.data.toList.take (i + 1) = a0.data.toList.take i ++ [a0.data.toList[i]] := (List.take_append_getElem hlt2).symm
    have hget : (r7_author.ints (r7_author.rep (a0.data.toList.take i) ++ a0.data.toList.drop i)).getD i 0 = ((a0.data.toList[i]).toNat : Int) := by
     rw [hdrop, List.getD_eq_getElem?_getD, r7_author.ints, List.map_append, List.getElem?_append_right (by rw [List.length_map, hpre]; omega), List.length_map, hpre, Nat.sub_self]
     rfl
    have hc := HR.out.cell i (by rw [hxl]; exact hlt)
    rw [hget] at hc
    have hf := HR.out.free i (by rw [hxl]; exact hlt)
    have hnext : r7_author.ints (r7_author.rep (a0.data.toList.take (i + 1)) ++ a0.data.toList.drop (i + 1)) = (r7_author.ints (r7_author.rep (a0.data.toList.take i) ++ a0.data.toList.drop i)).set i (if a0.data.toList[i] = 47 then 45 else ((a0.data.toList[i]).toNat : Int)) := by
     conv => rhs; rw [hdrop]
     rw [htake]
     simp only [r7_author.ints, r7_author.rep, List.map_append, List.map_cons, List.map_nil, List.append_assoc, List.cons_append, List.nil_append]
     rw [List.set_append_right _ _ (by simp only [List.length_map, List.length_take]; omega)]
     simp only [List.length_map, List.length_take]
     rw [show i - min i a0.data.toList.length = 0 by omega, List.set_cons_zero]
     congr 2
     split <;> rfl
    have hput := HR.out.put i (by rw [hxl]; exact hlt) 45
    have NX := Aside0.mk hnext
    have PU := Aside0.mk hput
    have GT := Aside0.mk hget
    clear hdrop htake hnext hput hpre hget
    generalize hx : a0.data.toList[i] = x at *
    by_cases h47 : x = 47
    · have hb : ((x.toNat : Int) == 47) = true := by rw [h47]; rfl
      go_wp2_with fail
      go_roundw
      case rel =>
       refine ⟨i + 1, rfl, by omega, ⟨?_⟩, ⟨Below.setCell HB.out (p := ⟨w.heap.size, i, none⟩) (Nat.le_refl _) _⟩⟩
       rw [NX.out, if_pos h47]
       exact PU.out
      case measure =>
       simp [intOf]
       omega
    ·
     have hb : ((x.toNat : Int) == 47) = false := beq_eq_false_iff_ne.mpr (fun h => h47 (UInt8.toNat_inj.mp (by show x.toNat = 47; omega)))
     go_wp2_with fail
     go_roundw
     case rel =>
      refine ⟨i + 1, rfl, by omega, ⟨?_⟩, HB⟩
      rw [NX.out, if_neg h47, ← GT.out]
      rw [show ∀ (l : List Int) (t : Nat), l.set t (l.getD t 0) = l from fun l t => by
       apply List.ext_getElem?
       intro n
       rw [List.getElem?_set]
       split
       · rename_i hh
         subst hh
         split
         · rename_i h2
           rw [List.getD_eq_getElem?_getD, List.getElem?_eq_getElem h2]
           rfl
         · rename_i h2
           rw [List.getElem?_eq_none (by omega)]
       · rfl]
      exact HR.out
     case measure =>
      simp [intOf]
      omega
   ·
    obtain rfl : i = a0.size := by omega
    have hall : r7_author.rep (a0.data.toList.take a0.size) ++ a0.data.toList.drop a0.size = r7_author.rep a0.data.toList := by
     rw [List.take_of_length_le (by rw [LL.out]; exact Nat.le_refl _), List.drop_eq_nil_of_le (by rw [LL.out]; exact Nat.le_refl _), List.append_nil]
    rw [hall] at HR hxl
    have hrd := HR.out.reads (by omega)
    rw [hxl] at hrd
    have hcs := fun c => string_of_reads (P := Tryd.prog) (src := 91) (dst := 9) (c := c) Tryd.underlying91 Tryd.underlying5 Tryd.underlying9 hrd
    have hstr : strOfNums (r7_author.ints (r7_author.rep a0.data.toList)) = ⟨(r7_author.rep a0.data.toList).toArray⟩ := by
     unfold strOfNums r7_author.ints
     congr 2
     rw [List.map_map]
     conv => rhs; rw [← List.map_id (r7_author.rep a0.data.toList)]
     apply List.map_congr_left
     intro c _
     simp
    rw [hstr] at hcs
    clear hrd hstr hall hxl
    go_wp2_with (go_at_call 54; go_must (refine (r5_Name.calls k _ r _ HN.out).mono ?_; rintro e w2 ⟨rfl, ⟨nd, rfl⟩⟩))
    go_ret
    exact ⟨rfl, pw_below_drewN HB.out nd⟩
 · rw [if_neg hs] at h
   cases h


end Go.Proofs.YtnapcfpecpgdbaaDoor.M
