/- The program's functions as plain functions, and that each call comes to what these tell; written by a program of this session, some contracts by hand. Conditions: none. -/
import Derived.Test.YtnapcfpecpgdbaaDoorMx0
import Derived.Test.YtnapcfpecpgdbaaDoorMx7
import Derived.Test.YtnapcfpecpgdbaaDoorMx8
namespace Go.Proofs.YtnapcfpecpgdbaaDoor.M
open Go.RowKit Go.Proofs.YtnapcfpecpgdbaaDoorW.PrintWords Go.Proofs.YtnapcfpecpgdbaaDoorW.PrintLast Go.Proofs.YtnapcfpecpgdbaaDoorW.PrintMore
attribute [local go_sem] max2_int min2_int max_two min_two max_three min_three max_four min_four   -- for this text's walks alone
set_option linter.unusedVariables false
set_option linter.unusedSimpArgs false

/-! ### label_Ref: function 82 (given by hand) -/
/-- May a rune stand in a ref's name? -/
def label_Ref.ok (r : Int) : Bool := !((r < 97 || 122 < r) && (r < 48 || 57 < r) && r != 45 && r != 95)
/-- Are the runes from place pos on such as may stand in a ref's name? -/
def label_Ref.go (s : ByteArray) : Nat → Nat → Bool
 | 0, _ => true
 | n + 1, pos => if pos < s.size then (if label_Ref.ok ((Utf8.decode s pos).1 : Int) = false then false else label_Ref.go s n (pos + (Utf8.decode s pos).2)) else true
/-- What stands behind heads/ or tags/ -/
def label_Ref.tail (a0 : ByteArray) : Bool := if a0.toList = ([] : List UInt8) then false else (if (a0.size : Int) > 64 then false else label_Ref.go a0 a0.size 0)
def label_Ref.f (a0 : ByteArray) : Option (Bool) := (strings_CutPrefix.f a0 (⟨#[104, 101, 97, 100, 115, 47]⟩ : ByteArray)).bind fun x => if x.2 = true then some (label_Ref.tail x.1) else ((strings_CutPrefix.f a0 (⟨#[116, 97, 103, 115, 47]⟩ : ByteArray)).bind fun y => if y.2 = true then some (label_Ref.tail y.1) else some false)
theorem label_Ref.go_end (s : ByteArray) (n pos : Nat) (h : ¬ pos < s.size) : label_Ref.go s n pos = true := by
 cases n with
 | zero => rfl
 | succ n => simp [label_Ref.go, h]
theorem label_Ref.width_pos (s : ByteArray) (pos : Nat) (h : pos < s.size) : 1 ≤ (Utf8.decode s pos).2 := by
 by_cases ha : (s[pos]'h).toNat < 128
 · rw [decode_ascii s pos h ha]
   exact Nat.le_refl _
 · exact (decode_high s pos h (by omega)).2
theorem label_Ref.cut_some (a b : ByteArray) : ∃ r1 r2, strings_CutPrefix.f a b = some (r1, r2) := by
 unfold strings_CutPrefix.f sl_CutPrefix.f sl_HasPrefix.f
 by_cases h : (a.size : Int) ≥ (b.size : Int)
 · rw [if_pos h, if_pos (by omega), if_pos (by omega)]
   simp only [Option.bind_some]
   split
   · exact ⟨_, _, rfl⟩
   · exact ⟨_, _, rfl⟩
 · rw [if_neg h]
   exact ⟨_, _, rfl⟩
set_option maxHeartbeats 8000000 in
set_option maxRecDepth 1000000 in
theorem label_Ref.calls (a0 : ByteArray) (r : Bool) (w : World) (h : label_Ref.f a0 = some r) :
 Calls Tryd.prog 82 #[.string a0] w fun e w' => e = .returned (.bool r) ∧ Below w.heap.size w w' := by
 unfold label_Ref.f at h
 obtain ⟨⟨x1, x2⟩, hx, h⟩ := Option.bind_eq_some_iff.mp h
 have X := Aside0.mk hx
 have H := Aside0.mk h
 clear hx h
 go_enter Tryd.func82, Tryd.ntmps82
 go_upto_if 13 with (go_at_call 22; refine (strings_CutPrefix.calls _ _ x1 x2 _ X.out).mono ?_; rintro e w' ⟨rfl, ⟨nd, rfl⟩⟩)
 go_cut [3, 4] (fun v3 v4 wc => ∃ (x : ByteArray) (b : Bool), v3 = .string x ∧ v4 = .bool b ∧ Aside0 ((if b = true then label_Ref.tail x else false) = r) ∧ Drawn0 w wc)
 case first =>
  cases x2 with
  | true =>
   have H' := H.out
   rw [if_pos rfl] at H'
   have HT := Aside0.mk (show (if true = true then label_Ref.tail x1 else false) = r by rw [if_pos rfl]; exact Option.some.inj H')
   clear H' H
   go_wp2_with fail
   go_meet
   case rel => exact ⟨x1, true, rfl, rfl, HT, dz_⟩
  | false =>
   have H' := H.out
   rw [if_neg (by simp)] at H'
   obtain ⟨⟨y1, y2⟩, hy, h⟩ := Option.bind_eq_some_iff.mp H'
   have Y := Aside0.mk hy
   have HT := Aside0.mk (show (if y2 = true then label_Ref.tail y1 else false) = r by
    cases y2
    · rw [if_neg (by simp)] at h ⊢
      exact Option.some.inj h
    · rw [if_pos rfl] at h ⊢
      exact Option.some.inj h)
   clear H' H hy h
   go_wp2_with (go_at_call 22; refine (strings_CutPrefix.calls _ _ y1 y2 _ Y.out).mono ?_; rintro e w' ⟨rfl, ⟨nd, rfl⟩⟩)
   go_meet
   case rel => exact ⟨y1, y2, rfl, rfl, HT, dz_⟩
 case rest =>
  obtain ⟨x, b, rfl, rfl, HT, ⟨nc, rfl⟩⟩ := hcut
  clear H X
  cases b with
  | false =>
   have H' := HT.out
   rw [if_neg (by simp)] at H'
   subst H'
   clear HT
   go_wp2_with fail
   go_ret
   exact ⟨rfl, pw_below_drewN (Below.refl _ _) _⟩
  | true =>
   have h := HT.out
   rw [if_pos rfl] at h
   unfold label_Ref.tail at h
   clear HT
   by_cases c3 : x.toList = ([] : List UInt8)
   · rw [if_pos c3] at h
     subst h
     have c3b0 : (x.toList == ([] : List UInt8)) = true := beq_iff_eq.mpr c3
     clear c3
     go_wp2_with fail
     go_ret
     exact ⟨rfl, pw_below_drewN (Below.refl _ _) _⟩
   rw [if_neg c3] at h
   have c3b0 : (x.toList == ([] : List UInt8)) = false := beq_eq_false_iff_ne.mpr c3
   by_cases c4 : (x.size : Int) > 64
   · rw [if_pos c4] at h
     subst h
     have c4b0 : decide (64 < (x.size : Int)) = true := decide_eq_true c4
     have c4b1 : decide (64 < x.size) = true := decide_eq_true (by omega)
     clear c3 c4
     go_wp2_with fail
     go_ret
     exact ⟨rfl, pw_below_drewN (Below.refl _ _) _⟩
   rw [if_neg c4] at h
   have hs : x.size ≤ 64 := by omega
   have c4b0 : decide (64 < (x.size : Int)) = false := decide_eq_false c4
   have c4b1 : decide (64 < x.size) = false := decide_eq_false (by omega)
   have H := Aside0.mk h
   clear c3 c4 h
   go_wp2_with fail
   clear c3b0 c4b0 c4b1
   go_loopw [] (fun wr => ∃ (pos fuel : Nat), wr.heap[w.heap.size]? = some (.stringIter x pos) ∧ Below w.heap.size w wr ∧ Aside0 (label_Ref.go x fuel pos = r) ∧ pos ≤ x.size + 4 ∧ x.size ≤ pos + fuel) (fun wr => x.size - wr.iterPos w.heap.size)
   case atStart =>
    exact ⟨0, x.size, World.iter_heap w x 0, pw_below_drewN ((Below.refl _ w).alloc (Nat.le_refl _) _) _, H, by omega, by omega⟩
   case round =>
    obtain ⟨pos, fuel, hit, hbw, HG, hp4, hfu⟩ := hrel
    clear H
    by_cases hp : pos < x.size
    ·
     have hnx : ∀ ty, (Instr.next (.pointer (some ⟨w.heap.size, 0, none⟩)) true ty).run Tryd.prog wr = _ := fun ty => Lib.run_next_any_at wr w.heap.size x pos ty hit hp
     have hwd := label_Ref.width_pos x pos hp
     have hw4 : (Utf8.decode x pos).2 ≤ 4 := by
      simp only [Utf8.decode]
      repeat' split
      all_goals simp
     have hit2 := Lib.iterAt_heap wr w.heap.size x pos (pos + (Utf8.decode x pos).2) hit
     have hbw2 := Lib.below_iterAt hbw (k := w.heap.size) (Nat.le_refl _) x (pos + (Utf8.decode x pos).2)
     obtain ⟨f, rfl⟩ : ∃ f, fuel = f + 1 := ⟨fuel - 1, by omega⟩
     have HG' := HG.out
     simp only [label_Ref.go, if_pos hp] at HG'
     clear HG
     have hiff : label_Ref.ok ((Utf8.decode x pos).1 : Int) = false ↔ ((((Utf8.decode x pos).1 : Int) < 97 ∨ 122 < ((Utf8.decode x pos).1 : Int)) ∧ (((Utf8.decode x pos).1 : Int) < 48 ∨ 57 < ((Utf8.decode x pos).1 : Int)) ∧ ((Utf8.decode x pos).1 : Int) ≠ 45 ∧ ((Utf8.decode x pos).1 : Int) ≠ 95) := by
      simp [label_Ref.ok, and_assoc]
      omega
     generalize hq : label_Ref.ok ((Utf8.decode x pos).1 : Int) = q at HG' hiff
     clear hq
     cases q with
     | false =>
      rw [if_pos rfl] at HG'
      subst HG'
      obtain ⟨h1, h2, h3, h4⟩ := hiff.mp rfl
      clear hiff
      generalize ((Utf8.decode x pos).1 : Int) = v at *
      have e3 : (v != 45) = true := bne_iff_ne.mpr h3
      have e4 : (v != 95) = true := bne_iff_ne.mpr h4
      clear h3 h4
      rcases h1 with h1 | h1
      all_goals rcases h2 with h2 | h2
      all_goals (try (exfalso; omega))
      all_goals go_wp2_with fail
      all_goals go_ret
      all_goals exact ⟨rfl, hbw2⟩
     | true =>
      rw [if_neg (by simp)] at HG'
      have HG := Aside0.mk HG'
      clear HG'
      have hno : ¬ _ := fun hh => absurd (hiff.mpr hh) (by simp)
      clear hiff
      have hv : (97 ≤ ((Utf8.decode x pos).1 : Int) ∧ ((Utf8.decode x pos).1 : Int) ≤ 122) ∨ (48 ≤ ((Utf8.decode x pos).1 : Int) ∧ ((Utf8.decode x pos).1 : Int) ≤ 57) ∨ ((Utf8.decode x pos).1 : Int) = 45 ∨ ((Utf8.decode x pos).1 : Int) = 95 := by omega
      clear hno
      generalize ((Utf8.decode x pos).1 : Int) = v at *
      rcases hv with ⟨h1, h2⟩ | ⟨h1, h2⟩ | rfl | rfl
      all_goals go_wp2_with fail
      all_goals go_roundw
      all_goals first | exact ⟨pos + (Utf8.decode x pos).2, f, hit2, hbw2, HG, by omega, by omega⟩ | (simp only [World.iterPos, hit, hit2]; omega)
    · have hnx : ∀ ty, (Instr.next (.pointer (some ⟨w.heap.size, 0, none⟩)) true ty).run Tryd.prog wr = _ := fun ty => Lib.run_next_end_at wr w.heap.size x pos ty hit hp
      have HG' := HG.out
      rw [label_Ref.go_end x fuel pos hp] at HG'
      subst HG'
      go_wp2_with fail
      go_ret
      exact ⟨rfl, hbw⟩


/-! ### ob_CheckTag: function 63 -/
def ob_CheckTag.j0 : Nat → Bool → ByteArray → Int → ByteArray → ByteArray → Option (Int)
 | 0, _, _, _, _, _ => none
 | k + 1, x3, x175000, x175001, x175002, x175003 => if x3 = true then (some 70) else (if (x175000.size : Int) = 32 then (if 5 + x175002.size ≤ 9223372036854775807 then ((label_Ref.f ((⟨#[116, 97, 103, 115, 47]⟩ : ByteArray) ++ x175002)).bind fun t175 => (if t175 = true then ((ob_text.f x175003).bind fun t176 => (if t176 = true then (some 0) else (some 6))) else (some 6))) else (none)) else (some 6))
def ob_CheckTag.f (k : Nat) (a0_0 : ByteArray) (a0_1 : Int) (a0_2 : ByteArray) (a0_3 : ByteArray) : Option (Int) := if a0_1 < 1 then (ob_CheckTag.j0 k true a0_0 a0_1 a0_2 a0_3) else (ob_CheckTag.j0 k (decide (a0_1 > 4)) a0_0 a0_1 a0_2 a0_3)
theorem ob_CheckTag.mono_l : ∀ k, (∀ y0 y1 y2 y3 y4, LeO (ob_CheckTag.j0 k y0 y1 y2 y3 y4) (ob_CheckTag.j0 (k + 1) y0 y1 y2 y3 y4))
 | 0 => fun _ _ _ _ _ r h => by simp [ob_CheckTag.j0] at h
 | k + 1 => by
  have ih0 := ob_CheckTag.mono_l k
  · intro y0 y1 y2 y3 y4
    unfold ob_CheckTag.j0
    repeat' with_reducible first | exact ih0 _ _ _ _ _ | exact LeO.refl _ | exact LeO.none _ | refine LeO.ite ?_ ?_ | refine LeO.bind ?_ (fun _ => ?_)
theorem ob_CheckTag.mono : ∀ a0 a1 a2 a3 k, LeO (ob_CheckTag.f k a0 a1 a2 a3) (ob_CheckTag.f (k + 1) a0 a1 a2 a3) := by
 intro a0 a1 a2 a3 k
 have ih0 := ob_CheckTag.mono_l k
 unfold ob_CheckTag.f
 repeat' with_reducible first | exact ih0 _ _ _ _ _ | exact LeO.refl _ | exact LeO.none _ | refine LeO.ite ?_ ?_ | refine LeO.bind ?_ (fun _ => ?_)
set_option maxHeartbeats 8000000 in
set_option maxRecDepth 100000 in
theorem ob_CheckTag.calls (k : Nat) (a0_0 : ByteArray) (a0_1 : Int) (a0_2 : ByteArray) (a0_3 : ByteArray) (r : Int) (w : World) (h : ob_CheckTag.f k a0_0 a0_1 a0_2 a0_3 = some r) :
 Calls Tryd.prog 63 #[.agg #[.string a0_0, .int .i64 a0_1, .string a0_2, .string a0_3]] w fun e w' => e = .returned (.int .i64 r) ∧ Below w.heap.size w w' := by
 have hu75 := Tryd.underlying75
 have HB := Aside0.mk (Below.refl w.heap.size w)
 have H : (if a0_1 < 1 then (ob_CheckTag.j0 k true a0_0 a0_1 a0_2 a0_3) else (ob_CheckTag.j0 k (decide (a0_1 > 4)) a0_0 a0_1 a0_2 a0_3)) = some r := h
 clear h
 have HC2 := Aside0.mk H
 clear H
 go_enter Tryd.func63, Tryd.ntmps63
 go_upto_region 1 with (first | ((with_reducible refine gate_dst (N := 1) rfl ?_); refine box_event ?hg (N := 1) ?hd (cs := #[.string a0_0, .int .i64 a0_1, .string a0_2, .string a0_3]) (t := 75) ?hr ?_; (case hd => rfl); (case hg => rfl); (case hr => first | (go_simp; done) | (go_simp; rfl)); intro gb174 hg w3 hbox hb; have n0_ := Aside0.mk (below_step bz_ hb); have n1_ := Aside0.mk (hbox); have n2_ := Aside0.mk ((by rw [hg]; exact (below_size bz_) : w.heap.size ≤ gb174)); have n3_ := Aside0.mk ((by rw [hg]; exact (below_size bz_) : w.heap.size ≤ gb174)); clear HB; have HB := n0_; have BK174 := n1_; have GW174 := n2_; have GE174 := n3_; clear n0_ n1_ n2_ n3_; clear hb hbox hg))
 (try simp only [Act.put, List.setIfInBounds_toArray, List.set_cons_zero, List.set_cons_succ])
 go_cut [3] (fun v3 wc => ∃ (kq : Nat) (x3_1 : Bool), v3 = .bool x3_1 ∧ Aside0 (ob_CheckTag.j0 kq x3_1 a0_0 a0_1 a0_2 a0_3 = some r) ∧ Aside0 (kq ≤ k) ∧ Aside0 (wc.heap[gb174]? = some (.cells #[.string a0_0, .int .i64 a0_1, .string a0_2, .string a0_3] 75 (0, 0))) ∧ Aside0 (Below w.heap.size w wc))
 case first =>
  have H := HC2.out
  clear HC2
  by_cases c4 : a0_1 < 1
  ·
   rw [if_pos c4] at H
   have c4b0 : decide (a0_1 < 1) = true := decide_eq_true c4
   clear c4
   (first | rw [c4b0] | (simp only [i64_w, i32_w]; rw [c4b0]) | skip)
   have H' := Aside0.mk H
   clear H
   have hcz5_0 : w3.cell? ⟨gb174, 0, none⟩ = some (.string a0_0) := (blk_cell BK174.out 0).trans rfl
   have hcz5_1 : w3.cell? ⟨gb174, 1, none⟩ = some (.int .i64 a0_1) := (blk_cell BK174.out 1).trans rfl
   have hcz5_2 : w3.cell? ⟨gb174, 2, none⟩ = some (.string a0_2) := (blk_cell BK174.out 2).trans rfl
   have hcz5_3 : w3.cell? ⟨gb174, 3, none⟩ = some (.string a0_3) := (blk_cell BK174.out 3).trans rfl
   have hfz5_0 := blk_frozen BK174.out 0
   have hfz5_1 := blk_frozen BK174.out 1
   have hfz5_2 := blk_frozen BK174.out 2
   have hfz5_3 := blk_frozen BK174.out 3
   go_wp2
   go_meet
   case rel => exact ⟨_, (true), ez_, H', ⟨by first | omega | exact Nat.le_refl _⟩, ⟨kz_ BK174.out⟩, ⟨bs1_ GE174.out⟩⟩
  ·
   rw [if_neg c4] at H
   have c4b0 : decide (a0_1 < 1) = false := decide_eq_false c4
   clear c4
   (first | rw [c4b0] | (simp only [i64_w, i32_w]; rw [c4b0]) | skip)
   have H' := Aside0.mk H
   clear H
   have hcz6_0 : w3.cell? ⟨gb174, 0, none⟩ = some (.string a0_0) := (blk_cell BK174.out 0).trans rfl
   have hcz6_1 : w3.cell? ⟨gb174, 1, none⟩ = some (.int .i64 a0_1) := (blk_cell BK174.out 1).trans rfl
   have hcz6_2 : w3.cell? ⟨gb174, 2, none⟩ = some (.string a0_2) := (blk_cell BK174.out 2).trans rfl
   have hcz6_3 : w3.cell? ⟨gb174, 3, none⟩ = some (.string a0_3) := (blk_cell BK174.out 3).trans rfl
   have hfz6_0 := blk_frozen BK174.out 0
   have hfz6_1 := blk_frozen BK174.out 1
   have hfz6_2 := blk_frozen BK174.out 2
   have hfz6_3 := blk_frozen BK174.out 3
   go_wp2
   go_meet
   case rel => exact ⟨_, (decide (a0_1 > 4)), ez_, H', ⟨by first | omega | exact Nat.le_refl _⟩, ⟨kz_ BK174.out⟩, ⟨bs1_ GE174.out⟩⟩
 case rest =>
  clear HC2
  try clear p2
  try clear c4
  try clear c4b0
  try clear c6
  try clear hcz5_0
  try clear hcz5_1
  try clear hcz5_2
  try clear hcz5_3
  try clear hcz6_0
  try clear hcz6_1
  try clear hcz6_2
  try clear hcz6_3
  try clear hfz5_0
  try clear hfz5_1
  try clear hfz5_2
  try clear hfz5_3
  try clear hfz6_0
  try clear hfz6_1
  try clear hfz6_2
  try clear hfz6_3
  obtain ⟨kq, x3_1, rfl, HA, HJ1, BK174, HB⟩ := hcut
  cases kq with
  | zero => exact absurd HA.out (by simp [ob_CheckTag.j0])
  | succ kj1 =>
   have H := HA.out
   clear HA
   simp only [ob_CheckTag.j0] at H
   by_cases c7 : x3_1 = true
   · subst c7
     have H1 := H
     rw [if_pos rfl] at H1
     clear H
     have H := H1
     clear H1
     obtain rfl := Option.some.inj H
     go_wp2
     go_ret
     exact ⟨xz_, bs1_ GE174.out⟩
   ·
    replace c7 := Bool.eq_false_iff.mpr c7
    subst c7
    have H1 := H
    rw [if_neg (show ¬ (false = true) by decide)] at H1
    clear H
    have H := H1
    clear H1
    by_cases c8 : (a0_0.size : Int) = 32
    ·
     rw [if_pos c8] at H
     have c8b0 : ((a0_0.size : Int) == 32) = true := beq_iff_eq.mpr c8
     have c8b1 : ((a0_0.size : Int) != 32) = false := bne_eq_false_iff_eq.mpr c8
     clear c8
     by_cases c9 : 5 + a0_2.size ≤ 9223372036854775807
     ·
      rw [if_pos c9] at H
      have c9b0 := eq_true c9
      have c9b1 : decide (5 + a0_2.size ≤ 9223372036854775807) = true := decide_eq_true c9
      try have c9b2 : (9223372036854775807 < 5 + a0_2.size) = False := eq_false (Nat.not_lt.2 c9)
      replace H := Option.bind_eq_some_iff.mp H
      obtain ⟨t175, A100, H⟩ := H
      try dsimp only at H
      have A10 := Aside0.mk A100
      clear A100
      by_cases c11 : t175 = true
      ·
       subst c11
       have H1 := H
       rw [if_pos rfl] at H1
       clear H
       have H := H1
       clear H1
       replace H := Option.bind_eq_some_iff.mp H
       obtain ⟨t176, A120, H⟩ := H
       try dsimp only at H
       have A12 := Aside0.mk A120
       clear A120
       by_cases c13 : t176 = true
       ·
        subst c13
        have H1 := H
        rw [if_pos rfl] at H1
        clear H
        have H := H1
        clear H1
        obtain rfl := Option.some.inj H
        have hcz14_0 : wc.cell? ⟨gb174, 0, none⟩ = some (.string a0_0) := (blk_cell BK174.out 0).trans rfl
        have hcz14_1 : wc.cell? ⟨gb174, 1, none⟩ = some (.int .i64 a0_1) := (blk_cell BK174.out 1).trans rfl
        have hcz14_2 : wc.cell? ⟨gb174, 2, none⟩ = some (.string a0_2) := (blk_cell BK174.out 2).trans rfl
        have hcz14_3 : wc.cell? ⟨gb174, 3, none⟩ = some (.string a0_3) := (blk_cell BK174.out 3).trans rfl
        have hfz14_0 := blk_frozen BK174.out 0
        have hfz14_1 := blk_frozen BK174.out 1
        have hfz14_2 := blk_frozen BK174.out 2
        have hfz14_3 := blk_frozen BK174.out 3
        go_wp2_with (first | (go_at_call 82; (with_reducible refine (label_Ref.calls ((⟨#[116, 97, 103, 115, 47]⟩ : ByteArray) ++ a0_2) true _ A10.out).mono ?_); rintro e w15 ⟨rfl, hb⟩; have n0_ := Aside0.mk (blk_below (g := gb174) (o := .cells #[.string a0_0, .int .i64 a0_1, .string a0_2, .string a0_3] 75 (0, 0)) (kz_ BK174.out) hb); have n1_ := Aside0.mk (below_step (bs1_ GE174.out) hb); clear BK174; clear HB; have BK174 := n0_; have HB := n1_; clear n0_ n1_; (try clear hb); (try clear hb2); (try clear hk); (try clear hi); have hcz16_0 : w15.cell? ⟨gb174, 0, none⟩ = some (.string a0_0) := (blk_cell BK174.out 0).trans rfl; have hcz16_1 : w15.cell? ⟨gb174, 1, none⟩ = some (.int .i64 a0_1) := (blk_cell BK174.out 1).trans rfl; have hcz16_2 : w15.cell? ⟨gb174, 2, none⟩ = some (.string a0_2) := (blk_cell BK174.out 2).trans rfl; have hcz16_3 : w15.cell? ⟨gb174, 3, none⟩ = some (.string a0_3) := (blk_cell BK174.out 3).trans rfl; have hfz16_0 := blk_frozen BK174.out 0; have hfz16_1 := blk_frozen BK174.out 1; have hfz16_2 := blk_frozen BK174.out 2; have hfz16_3 := blk_frozen BK174.out 3) | (go_at_call 38; (with_reducible refine (ob_text.calls a0_3 true _ A12.out).mono ?_); rintro e w17 ⟨rfl, hb⟩; have n0_ := Aside0.mk (blk_below (g := gb174) (o := .cells #[.string a0_0, .int .i64 a0_1, .string a0_2, .string a0_3] 75 (0, 0)) (kz_ BK174.out) hb); have n1_ := Aside0.mk (below_step (bs1_ GE174.out) hb); clear BK174; clear HB; have BK174 := n0_; have HB := n1_; clear n0_ n1_; (try clear hb); (try clear hb2); (try clear hk); (try clear hi)))
        go_ret
        exact ⟨xz_, bs1_ GE174.out⟩
       ·
        replace c13 := Bool.eq_false_iff.mpr c13
        subst c13
        have H1 := H
        rw [if_neg (show ¬ (false = true) by decide)] at H1
        clear H
        have H := H1
        clear H1
        obtain rfl := Option.some.inj H
        have hcz18_0 : wc.cell? ⟨gb174, 0, none⟩ = some (.string a0_0) := (blk_cell BK174.out 0).trans rfl
        have hcz18_1 : wc.cell? ⟨gb174, 1, none⟩ = some (.int .i64 a0_1) := (blk_cell BK174.out 1).trans rfl
        have hcz18_2 : wc.cell? ⟨gb174, 2, none⟩ = some (.string a0_2) := (blk_cell BK174.out 2).trans rfl
        have hcz18_3 : wc.cell? ⟨gb174, 3, none⟩ = some (.string a0_3) := (blk_cell BK174.out 3).trans rfl
        have hfz18_0 := blk_frozen BK174.out 0
        have hfz18_1 := blk_frozen BK174.out 1
        have hfz18_2 := blk_frozen BK174.out 2
        have hfz18_3 := blk_frozen BK174.out 3
        go_wp2_with (first | (go_at_call 82; (with_reducible refine (label_Ref.calls ((⟨#[116, 97, 103, 115, 47]⟩ : ByteArray) ++ a0_2) true _ A10.out).mono ?_); rintro e w19 ⟨rfl, hb⟩; have n0_ := Aside0.mk (blk_below (g := gb174) (o := .cells #[.string a0_0, .int .i64 a0_1, .string a0_2, .string a0_3] 75 (0, 0)) (kz_ BK174.out) hb); have n1_ := Aside0.mk (below_step (bs1_ GE174.out) hb); clear BK174; clear HB; have BK174 := n0_; have HB := n1_; clear n0_ n1_; (try clear hb); (try clear hb2); (try clear hk); (try clear hi); have hcz20_0 : w19.cell? ⟨gb174, 0, none⟩ = some (.string a0_0) := (blk_cell BK174.out 0).trans rfl; have hcz20_1 : w19.cell? ⟨gb174, 1, none⟩ = some (.int .i64 a0_1) := (blk_cell BK174.out 1).trans rfl; have hcz20_2 : w19.cell? ⟨gb174, 2, none⟩ = some (.string a0_2) := (blk_cell BK174.out 2).trans rfl; have hcz20_3 : w19.cell? ⟨gb174, 3, none⟩ = some (.string a0_3) := (blk_cell BK174.out 3).trans rfl; have hfz20_0 := blk_frozen BK174.out 0; have hfz20_1 := blk_frozen BK174.out 1; have hfz20_2 := blk_frozen BK174.out 2; have hfz20_3 := blk_frozen BK174.out 3) | (go_at_call 38; (with_reducible refine (ob_text.calls a0_3 false _ A12.out).mono ?_); rintro e w21 ⟨rfl, hb⟩; have n0_ := Aside0.mk (blk_below (g := gb174) (o := .cells #[.string a0_0, .int .i64 a0_1, .string a0_2, .string a0_3] 75 (0, 0)) (kz_ BK174.out) hb); have n1_ := Aside0.mk (below_step (bs1_ GE174.out) hb); clear BK174; clear HB; have BK174 := n0_; have HB := n1_; clear n0_ n1_; (try clear hb); (try clear hb2); (try clear hk); (try clear hi)))
        go_ret
        exact ⟨xz_, bs1_ GE174.out⟩
      ·
       replace c11 := Bool.eq_false_iff.mpr c11
       subst c11
       have H1 := H
       rw [if_neg (show ¬ (false = true) by decide)] at H1
       clear H
       have H := H1
       clear H1
       obtain rfl := Option.some.inj H
       have hcz22_0 : wc.cell? ⟨gb174, 0, none⟩ = some (.string a0_0) := (blk_cell BK174.out 0).trans rfl
       have hcz22_1 : wc.cell? ⟨gb174, 1, none⟩ = some (.int .i64 a0_1) := (blk_cell BK174.out 1).trans rfl
       have hcz22_2 : wc.cell? ⟨gb174, 2, none⟩ = some (.string a0_2) := (blk_cell BK174.out 2).trans rfl
       have hcz22_3 : wc.cell? ⟨gb174, 3, none⟩ = some (.string a0_3) := (blk_cell BK174.out 3).trans rfl
       have hfz22_0 := blk_frozen BK174.out 0
       have hfz22_1 := blk_frozen BK174.out 1
       have hfz22_2 := blk_frozen BK174.out 2
       have hfz22_3 := blk_frozen BK174.out 3
       go_wp2_with (first | (go_at_call 82; (with_reducible refine (label_Ref.calls ((⟨#[116, 97, 103, 115, 47]⟩ : ByteArray) ++ a0_2) false _ A10.out).mono ?_); rintro e w23 ⟨rfl, hb⟩; have n0_ := Aside0.mk (blk_below (g := gb174) (o := .cells #[.string a0_0, .int .i64 a0_1, .string a0_2, .string a0_3] 75 (0, 0)) (kz_ BK174.out) hb); have n1_ := Aside0.mk (below_step (bs1_ GE174.out) hb); clear BK174; clear HB; have BK174 := n0_; have HB := n1_; clear n0_ n1_; (try clear hb); (try clear hb2); (try clear hk); (try clear hi)))
       go_ret
       exact ⟨xz_, bs1_ GE174.out⟩
     · rw [if_neg c9] at H
       exact absurd H (by simp)
    ·
     rw [if_neg c8] at H
     have c8b0 : ((a0_0.size : Int) == 32) = false := beq_eq_false_iff_ne.mpr c8
     have c8b1 : ((a0_0.size : Int) != 32) = true := bne_iff_ne.mpr c8
     obtain rfl := Option.some.inj H
     have hcz24_0 : wc.cell? ⟨gb174, 0, none⟩ = some (.string a0_0) := (blk_cell BK174.out 0).trans rfl
     have hcz24_1 : wc.cell? ⟨gb174, 1, none⟩ = some (.int .i64 a0_1) := (blk_cell BK174.out 1).trans rfl
     have hcz24_2 : wc.cell? ⟨gb174, 2, none⟩ = some (.string a0_2) := (blk_cell BK174.out 2).trans rfl
     have hcz24_3 : wc.cell? ⟨gb174, 3, none⟩ = some (.string a0_3) := (blk_cell BK174.out 3).trans rfl
     have hfz24_0 := blk_frozen BK174.out 0
     have hfz24_1 := blk_frozen BK174.out 1
     have hfz24_2 := blk_frozen BK174.out 2
     have hfz24_3 := blk_frozen BK174.out 3
     go_wp2
     go_ret
     exact ⟨xz_, bs1_ GE174.out⟩

end Go.Proofs.YtnapcfpecpgdbaaDoor.M
