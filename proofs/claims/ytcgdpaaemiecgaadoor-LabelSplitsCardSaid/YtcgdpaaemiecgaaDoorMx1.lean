/- The program's functions as plain functions, and that each call comes to what these tell; written by a program of this session, some contracts by hand. Conditions: none. -/
import Derived.Test.YtcgdpaaemiecgaaDoorMx0
namespace Go.Proofs.YtcgdpaaemiecgaaDoor.M
open Go.RowKit Go.Proofs.YtcgdpaaemiecgaaDoorW.PrintWords Go.Proofs.YtcgdpaaemiecgaaDoorW.PrintLast Go.Proofs.YtcgdpaaemiecgaaDoorW.PrintMore
attribute [local go_sem] max2_int min2_int max_two min_two max_three min_three max_four min_four   -- for this text's walks alone
set_option linter.unusedVariables false
set_option linter.unusedSimpArgs false

/-! ### strings_Split: function 10 (given by hand) -/
/-- strings.Split at a separator of one byte. -/
def strings_Split.f (a0 : ByteArray) (a1 : ByteArray) : Option (List ByteArray) := if a1.size = 1 ∧ a0.size < 4294967281 then some (Lib.splitB a1 0 (Lib.countB a0 a1) a0) else none
theorem strings_Split.made (w : World) (e : TypeId) (l : List ByteArray) (hl : l.length ≤ maxLen) : Kd.R Kd.string e (w.alloc (.cells (l.map Value.string).toArray e)) w.heap.size (fun _ => True) (.slice (some ⟨w.heap.size, 0, none⟩) l.length l.length) l := by
  refine ⟨fun _ _ => trivial, l.map Value.string, ⟨by simp [Kd.string, Kd.scalar], .inr ⟨w.heap.size, l.length, _, rfl, Nat.le_refl _, heap_alloc_new w _, Nat.le_refl _, hl, by simp [Kd.string, Kd.scalar], by simp only [Kd.string, Kd.scalar, Nat.mul_one]; rw [List.take_of_length_le (by simp)]⟩⟩, by simp [Kd.string, Kd.scalar], fun j p hj => ?_⟩
  show ((l.map Value.string).drop (j * 1)).take 1 = [Value.string p]
  obtain ⟨h1, h2⟩ := List.getElem?_eq_some_iff.mp hj
  rw [Nat.mul_one, List.drop_eq_getElem_cons (by simpa using h1)]
  simp [h2]
set_option maxHeartbeats 4000000 in
set_option maxRecDepth 100000 in
theorem strings_Split.calls (a0 : ByteArray) (a1 : ByteArray) (r : List ByteArray) (w : World) (h : strings_Split.f a0 a1 = some r) :
    Calls Tryd.prog 10 #[.string a0, .string a1] w fun e w' => ∃ v0_ : Value, e = .returned (v0_) ∧ Kd.R Kd.string 9 w' w.heap.size (fun _ => True) v0_ r ∧ Below w.heap.size w w' := by
  unfold strings_Split.f at h
  by_cases h1 : a1.size = 1 ∧ a0.size < 4294967281
  · rw [if_pos h1] at h
    obtain ⟨h1, hs⟩ := h1
    obtain ⟨c, rfl⟩ := Lib.one_byte a1 h1
    have h := Option.some.inj h
    have hlen := Lib.splitB_all ⟨#[c]⟩ (Nat.le_refl 1) 0 _ a0 rfl
    have hle := Lib.countB_le ⟨#[c]⟩ (Nat.le_refl 1) a0.size a0 (Nat.le_refl _)
    have hc := Tryd.strings_genSplit_one a0 c 0 (Nat.zero_le 1) w hs
    rw [h] at hlen hc
    rw [← hlen] at hc
    have hm : r.length ≤ maxLen := by
      show r.length ≤ 9223372036854775807
      omega
    clear h h1 hlen hle hs
    have HM := Aside0.mk hm
    clear hm
    go_enter Tryd.func10, Tryd.ntmps10
    go_wp2_with (go_at_call 16; refine hc.mono ?_; rintro e w' ⟨rfl, hw⟩; rw [hw])
    go_ret
    exact ⟨_, rfl, strings_Split.made w 9 r HM.out, below_alloc (Below.refl _ w) _⟩
  · rw [if_neg h1] at h
    cases h


/-! ### label_plain: function 17 -/
def label_plain.f (a0 : Int) : Option (Bool) := if a0 ≥ 32 then (if a0 = 47 then (some false) else (if a0 = 65533 then (some false) else (if a0 < 127 then (some true) else (some (decide (a0 > 159)))))) else (some false)
set_option maxHeartbeats 8000000 in
set_option maxRecDepth 100000 in
theorem label_plain.calls (a0 : Int) (r : Bool) (w : World) (h : label_plain.f a0 = some r) :
    Calls Tryd.prog 17 #[.int .i32 a0] w fun e w' => e = .returned (.bool r) ∧ Drawn0 w w' := by
  have H : (if a0 ≥ 32 then (if a0 = 47 then (some false) else (if a0 = 65533 then (some false) else (if a0 < 127 then (some true) else (some (decide (a0 > 159)))))) else (some false)) = some r := h
  clear h
  by_cases c2 : a0 ≥ 32
  · rw [if_pos c2] at H
    have c2b0 : decide (32 ≤ a0) = true := decide_eq_true c2
    clear c2
    by_cases c3 : a0 = 47
    · rw [if_pos c3] at H
      have c3b0 : (a0 == 47) = true := beq_iff_eq.mpr c3
      have c3b1 : (a0 != 47) = false := bne_eq_false_iff_eq.mpr c3
      clear c3
      obtain rfl := Option.some.inj H
      go_enter Tryd.func17, Tryd.ntmps17
      go_wp2
      go_ret
      exact ⟨by first | rfl | (simp; done) | (simp [*]; done), by repeat (first | exact Drawn0.refl _ | apply Drawn0.step)⟩
    · rw [if_neg c3] at H
      have c3b0 : (a0 == 47) = false := beq_eq_false_iff_ne.mpr c3
      have c3b1 : (a0 != 47) = true := bne_iff_ne.mpr c3
      by_cases c4 : a0 = 65533
      · rw [if_pos c4] at H
        have c4b0 : (a0 == 65533) = true := beq_iff_eq.mpr c4
        have c4b1 : (a0 != 65533) = false := bne_eq_false_iff_eq.mpr c4
        clear c4
        obtain rfl := Option.some.inj H
        go_enter Tryd.func17, Tryd.ntmps17
        go_wp2
        go_ret
        exact ⟨by first | rfl | (simp; done) | (simp [*]; done), by repeat (first | exact Drawn0.refl _ | apply Drawn0.step)⟩
      · rw [if_neg c4] at H
        have c4b0 : (a0 == 65533) = false := beq_eq_false_iff_ne.mpr c4
        have c4b1 : (a0 != 65533) = true := bne_iff_ne.mpr c4
        by_cases c5 : a0 < 127
        · rw [if_pos c5] at H
          have c5b0 : decide (a0 < 127) = true := decide_eq_true c5
          clear c5
          obtain rfl := Option.some.inj H
          go_enter Tryd.func17, Tryd.ntmps17
          go_wp2
          go_ret
          exact ⟨by first | rfl | (simp; done) | (simp [*]; done), by repeat (first | exact Drawn0.refl _ | apply Drawn0.step)⟩
        · rw [if_neg c5] at H
          have c5b0 : decide (a0 < 127) = false := decide_eq_false c5
          clear c5
          obtain rfl := Option.some.inj H
          go_enter Tryd.func17, Tryd.ntmps17
          go_wp2
          go_ret
          exact ⟨by first | rfl | (simp; done) | (simp [*]; done), by repeat (first | exact Drawn0.refl _ | apply Drawn0.step)⟩
  · rw [if_neg c2] at H
    have c2b0 : decide (32 ≤ a0) = false := decide_eq_false c2
    clear c2
    obtain rfl := Option.some.inj H
    go_enter Tryd.func17, Tryd.ntmps17
    go_wp2
    go_ret
    exact ⟨by first | rfl | (simp; done) | (simp [*]; done), by repeat (first | exact Drawn0.refl _ | apply Drawn0.step)⟩

/-! ### label_Name: function 11 (given by hand) -/
/-- Are the runes from place pos on such as may stand in a name? -/
def label_Name.go (s : ByteArray) : Nat → Nat → Bool
  | 0, _ => true
  | n + 1, pos => if pos < s.size then (if label_plain.f ((Utf8.decode s pos).1 : Int) = some false then false else label_Name.go s n (pos + (Utf8.decode s pos).2)) else true
def label_Name.f (a0 : ByteArray) : Option (Bool) := if a0.toList = ([] : List UInt8) then some false else (if (a0.size : Int) > 64 then some false else (if a0.toList = ([46] : List UInt8) then some false else (if a0.toList = ([46, 46] : List UInt8) then some false else some (label_Name.go a0 a0.size 0))))
theorem label_Name.go_end (s : ByteArray) (n pos : Nat) (h : ¬ pos < s.size) : label_Name.go s n pos = true := by
  cases n with
  | zero => rfl
  | succ n => simp [label_Name.go, h]
theorem label_Name.width_pos (s : ByteArray) (pos : Nat) (h : pos < s.size) : 1 ≤ (Utf8.decode s pos).2 := by
  by_cases ha : (s[pos]'h).toNat < 128
  · rw [decode_ascii s pos h ha]
    exact Nat.le_refl _
  · exact (decode_high s pos h (by omega)).2
theorem label_Name.plain_some (c : Int) : ∃ r, label_plain.f c = some r := by
  unfold label_plain.f
  repeat' split
  all_goals exact ⟨_, rfl⟩
set_option maxHeartbeats 4000000 in
set_option maxRecDepth 1000000 in
theorem label_Name.calls (a0 : ByteArray) (r : Bool) (w : World) (h : label_Name.f a0 = some r) :
    Calls Tryd.prog 11 #[.string a0] w fun e w' => e = .returned (.bool r) ∧ Below w.heap.size w w' := by
  unfold label_Name.f at h
  by_cases c3 : a0.toList = ([] : List UInt8)
  · rw [if_pos c3] at h
    obtain rfl := Option.some.inj h
    have c3b0 : (a0.toList == ([] : List UInt8)) = true := beq_iff_eq.mpr c3
    clear c3 h
    go_enter Tryd.func11, Tryd.ntmps11
    go_wp2_with fail
    go_ret
    exact ⟨rfl, Below.refl _ _⟩
  rw [if_neg c3] at h
  have c3b0 : (a0.toList == ([] : List UInt8)) = false := beq_eq_false_iff_ne.mpr c3
  by_cases c4 : (a0.size : Int) > 64
  · rw [if_pos c4] at h
    obtain rfl := Option.some.inj h
    have c4b0 : decide (64 < (a0.size : Int)) = true := decide_eq_true c4
    have c4b1 : decide (64 < a0.size) = true := decide_eq_true (by omega)
    clear c3 c4 h
    go_enter Tryd.func11, Tryd.ntmps11
    go_wp2_with fail
    go_ret
    exact ⟨rfl, Below.refl _ _⟩
  rw [if_neg c4] at h
  have hs : a0.size ≤ 64 := by omega
  have c4b0 : decide (64 < (a0.size : Int)) = false := decide_eq_false c4
  have c4b1 : decide (64 < a0.size) = false := decide_eq_false (by omega)
  clear c4
  by_cases c5 : a0.toList = ([46] : List UInt8)
  · rw [if_pos c5] at h
    obtain rfl := Option.some.inj h
    have c5b0 : (a0.toList == ([46] : List UInt8)) = true := beq_iff_eq.mpr c5
    clear c3 c5 h
    go_enter Tryd.func11, Tryd.ntmps11
    go_wp2_with fail
    go_ret
    exact ⟨rfl, Below.refl _ _⟩
  rw [if_neg c5] at h
  have c5b0 : (a0.toList == ([46] : List UInt8)) = false := beq_eq_false_iff_ne.mpr c5
  clear c5
  by_cases c6 : a0.toList = ([46, 46] : List UInt8)
  · rw [if_pos c6] at h
    obtain rfl := Option.some.inj h
    have c6b0 : (a0.toList == ([46, 46] : List UInt8)) = true := beq_iff_eq.mpr c6
    clear c3 c6 h
    go_enter Tryd.func11, Tryd.ntmps11
    go_wp2_with fail
    go_ret
    exact ⟨rfl, Below.refl _ _⟩
  rw [if_neg c6] at h
  have c6b0 : (a0.toList == ([46, 46] : List UInt8)) = false := beq_eq_false_iff_ne.mpr c6
  have H := Aside0.mk (Option.some.inj h)
  clear c3 c6 h
  go_enter Tryd.func11, Tryd.ntmps11
  go_wp2_with fail
  clear c3b0 c4b0 c4b1 c5b0 c6b0
  go_loopw [] (fun wr => ∃ (pos fuel : Nat), wr.heap[w.heap.size]? = some (.stringIter a0 pos) ∧ Below w.heap.size w wr ∧ Aside0 (label_Name.go a0 fuel pos = r) ∧ pos ≤ a0.size + 4 ∧ a0.size ≤ pos + fuel) (fun wr => a0.size - wr.iterPos w.heap.size)
  case atStart =>
    exact ⟨0, a0.size, World.iter_heap w a0 0, (Below.refl _ w).alloc (Nat.le_refl _) _, H, by omega, by omega⟩
  case round =>
    obtain ⟨pos, fuel, hit, hbw, HG, hp4, hfu⟩ := hrel
    clear H
    by_cases hp : pos < a0.size
    · have hnx : ∀ ty, (Instr.next (.pointer (some ⟨w.heap.size, 0, none⟩)) true ty).run Tryd.prog wr = _ := fun ty => Lib.run_next_any_at wr w.heap.size a0 pos ty hit hp
      have hwd := label_Name.width_pos a0 pos hp
      have hw4 : (Utf8.decode a0 pos).2 ≤ 4 := by
        simp only [Utf8.decode]
        repeat' split
        all_goals simp
      have hit2 := Lib.iterAt_heap wr w.heap.size a0 pos (pos + (Utf8.decode a0 pos).2) hit
      have hbw2 := Lib.below_iterAt hbw (k := w.heap.size) (Nat.le_refl _) a0 (pos + (Utf8.decode a0 pos).2)
      obtain ⟨f, rfl⟩ : ∃ f, fuel = f + 1 := ⟨fuel - 1, by omega⟩
      have HG' := HG.out
      simp only [label_Name.go, if_pos hp] at HG'
      obtain ⟨q, hq⟩ := label_Name.plain_some ((Utf8.decode a0 pos).1 : Int)
      rw [hq] at HG'
      have Q := Aside0.mk hq
      clear hq HG
      cases q with
      | false =>
        rw [if_pos rfl] at HG'
        subst HG'
        go_wp2_with (go_at_call 17; refine (label_plain.calls _ false _ Q.out).mono ?_; rintro e w' ⟨rfl, ⟨nd, rfl⟩⟩)
        go_ret
        exact ⟨rfl, pw_below_drewN hbw2 _⟩
      | true =>
        rw [if_neg (by simp)] at HG'
        have HG := Aside0.mk HG'
        clear HG'
        go_wp2_with (go_at_call 17; refine (label_plain.calls _ true _ Q.out).mono ?_; rintro e w' ⟨rfl, ⟨nd, rfl⟩⟩)
        go_roundw
        case rel => exact ⟨pos + (Utf8.decode a0 pos).2, f, hit2, pw_below_drewN hbw2 _, HG, by omega, by omega⟩
        case measure =>
          simp only [World.iterPos, hit]
          rw [show ((wr.iterAt w.heap.size a0 (pos + (Utf8.decode a0 pos).2)).drewN nd).heap[w.heap.size]? = _ from hit2]
          simp only
          omega
    · have hnx : ∀ ty, (Instr.next (.pointer (some ⟨w.heap.size, 0, none⟩)) true ty).run Tryd.prog wr = _ := fun ty => Lib.run_next_end_at wr w.heap.size a0 pos ty hit hp
      have HG' := HG.out
      rw [label_Name.go_end a0 fuel pos hp] at HG'
      subst HG'
      go_wp2_with fail
      go_ret
      exact ⟨rfl, hbw⟩


/-! ### label_Split: function 5 -/
def label_Split.l0 : Nat → List ByteArray → List ByteArray → Int → Int → Option (List ByteArray × Int)
  | 0, _, _, _, _ => none
  | k + 1, x4, x12, x13, x14 => if x14 < x13 then (if 0 ≤ x14 then (if x14 < (x12.length : Int) then ((label_Name.f (rdOf ByteArray.empty x12 x14)).bind fun t105 => (if t105 = true then (label_Split.l0 k x4 x12 x13 (wrap64 (x14 + 1))) else (some (([] : List ByteArray), 50)))) else (none)) else (none)) else (some (x4, 0))
def label_Split.f (k : Nat) (a0 : ByteArray) : Option (List ByteArray × Int) := (strings_Split.f a0 (⟨#[47]⟩ : ByteArray)).bind fun t101 => (if (t101.length : Int) > 64 then (some (([] : List ByteArray), 3)) else (label_Split.l0 k t101 t101 (t101.length : Int) 0))
theorem label_Split.mono_l : ∀ k, (∀ y0 y1 y2 y3, LeO (label_Split.l0 k y0 y1 y2 y3) (label_Split.l0 (k + 1) y0 y1 y2 y3))
  | 0 => fun _ _ _ _ r h => by simp [label_Split.l0] at h
  | k + 1 => by
    have ih0 := label_Split.mono_l k
    · intro y0 y1 y2 y3
      unfold label_Split.l0
      repeat' first
      | (with_reducible exact ih0 _ _ _ _)
      | (with_reducible exact LeO.refl _)
      | (with_reducible exact LeO.none _)
      | (with_reducible refine LeO.ite ?_ ?_)
      | (with_reducible refine LeO.bind ?_ (fun _ => ?_))
      | exact ih0 _ _ _ _
      | exact LeO.none _
      | refine LeO.ite ?_ ?_
      | refine LeO.bind ?_ (fun _ => ?_)
theorem label_Split.mono : ∀ a0 k, LeO (label_Split.f k a0) (label_Split.f (k + 1) a0) := by
  intro a0 k
  have ih0 := label_Split.mono_l k
  unfold label_Split.f
  repeat' first
      | (with_reducible exact ih0 _ _ _ _)
      | (with_reducible exact LeO.refl _)
      | (with_reducible exact LeO.none _)
      | (with_reducible refine LeO.ite ?_ ?_)
      | (with_reducible refine LeO.bind ?_ (fun _ => ?_))
      | exact ih0 _ _ _ _
      | exact LeO.none _
      | refine LeO.ite ?_ ?_
      | refine LeO.bind ?_ (fun _ => ?_)
set_option maxHeartbeats 8000000 in
set_option maxRecDepth 100000 in
theorem label_Split.calls (k : Nat) (a0 : ByteArray) (r1 : List ByteArray) (r2 : Int) (w : World) (h : label_Split.f k a0 = some (r1, r2)) :
    Calls Tryd.prog 5 #[.string a0] w fun e w' => ∃ v0_ : Value, e = .returned (.tuple #[v0_, .int .i64 r2]) ∧ Kd.R Kd.string 9 w' w.heap.size (fun _ => True) v0_ r1 ∧ Below w.heap.size w w' := by
  have HB := Aside0.mk (Below.refl w.heap.size w)
  have H : ((strings_Split.f a0 (⟨#[47]⟩ : ByteArray)).bind fun t101 => (if (t101.length : Int) > 64 then (some (([] : List ByteArray), 3)) else (label_Split.l0 k t101 t101 (t101.length : Int) 0))) = some (r1, r2) := h
  clear h
  replace H := Option.bind_eq_some_iff.mp H
  obtain ⟨t101, A20, H⟩ := H
  replace H : (if (t101.length : Int) > 64 then (some (([] : List ByteArray), 3)) else (label_Split.l0 k t101 t101 (t101.length : Int) 0)) = some (r1, r2) := H
  have A2 := Aside0.mk A20
  clear A20
  by_cases c3 : (t101.length : Int) > 64
  · rw [if_pos c3] at H
    have c3b0 : decide (64 < (t101.length : Int)) = true := decide_eq_true c3
    have c3b1 : decide (64 < t101.length) = true := decide_eq_true (by omega)
    clear c3
    simp only [Option.some.injEq, Prod.mk.injEq] at H
    obtain ⟨rfl, rfl⟩ := H
    go_enter Tryd.func5, Tryd.ntmps5
    go_wp2_with (first | ((with_reducible refine gate_callee (f := 10) rfl ?_); refine goesL_ (some 8) rfl rfl Tryd.func10 (by kernel_rfl) rfl #[.string a0, .string (⟨#[47]⟩ : ByteArray)] rfl (by (try simp only [List.map_toArray, List.map_cons, List.map_nil]); first | done | rfl | (simp only [List.length_drop, List.length_take]; rfl)) ?_; (with_reducible refine (strings_Split.calls a0 (⟨#[47]⟩ : ByteArray) t101 _ A2.out).mono ?_); rintro e w4 ⟨v102, rfl, ho0, hb⟩; refine ⟨_, rfl, ?_⟩; have n0_ := Aside0.mk (Kd.R_lower ho0 (below_size (by repeat (first | (with_reducible first | exact HB.out | apply below_alloc | apply pw_below_drewN | apply below_drew1) | exact HB.out)))); have n1_ := Aside0.mk (below_step (by repeat (first | (with_reducible first | exact HB.out | apply below_alloc | apply pw_below_drewN | apply below_drew1) | exact HB.out)) hb); clear HB; have HO103 := n0_; have HB := n1_; clear n0_ n1_; (try clear hb); (try clear hb2); (try clear hk); (try clear hi); (try clear ho0); obtain ⟨Ao5, co5, eo5⟩ := Kd.R_slice HO103.out; subst eo5))
    go_ret2
    exact ⟨_, by first | rfl | (simp [errW_none, errW_some] <;> rfl) | (simp [*, errW_none, errW_some] <;> rfl), by first | exact Kd.R_nil _ _ _ _ _ | exact Kd.N_nil _ _ _ _ _ | exact Kd.V_nil _ _ _ _ _ | exact Kd.Q_nil _ _ _ _ _ | exact Kd.S_nil _ _ _ _ _, by repeat (first | (with_reducible first | exact HB.out | apply below_alloc | apply pw_below_drewN | apply below_drew1) | exact HB.out)⟩
  · rw [if_neg c3] at H
    have c3b0 : decide (64 < (t101.length : Int)) = false := decide_eq_false c3
    have c3b1 : decide (64 < t101.length) = false := decide_eq_false (by omega)
    clear c3
    have H' := Aside0.mk H
    clear H
    go_enter Tryd.func5, Tryd.ntmps5
    go_wp2_with (first | ((with_reducible refine gate_callee (f := 10) rfl ?_); refine goesL_ (some 8) rfl rfl Tryd.func10 (by kernel_rfl) rfl #[.string a0, .string (⟨#[47]⟩ : ByteArray)] rfl (by (try simp only [List.map_toArray, List.map_cons, List.map_nil]); first | done | rfl | (simp only [List.length_drop, List.length_take]; rfl)) ?_; (with_reducible refine (strings_Split.calls a0 (⟨#[47]⟩ : ByteArray) t101 _ A2.out).mono ?_); rintro e w6 ⟨v102, rfl, ho0, hb⟩; refine ⟨_, rfl, ?_⟩; have n0_ := Aside0.mk (Kd.R_lower ho0 (below_size (by repeat (first | (with_reducible first | exact HB.out | apply below_alloc | apply pw_below_drewN | apply below_drew1) | exact HB.out)))); have n1_ := Aside0.mk (below_step (by repeat (first | (with_reducible first | exact HB.out | apply below_alloc | apply pw_below_drewN | apply below_drew1) | exact HB.out)) hb); clear HB; have HO103 := n0_; have HB := n1_; clear n0_ n1_; (try clear hb); (try clear hb2); (try clear hk); (try clear hi); (try clear ho0); obtain ⟨Ao7, co7, eo7⟩ := Kd.R_slice HO103.out; subst eo7))
    go_loopg [14] k (fun kq v14 w' => ∃ (x14_1 : Int), v14 = .int .i64 x14_1 ∧ Aside0 (label_Split.l0 kq t101 t101 (t101.length : Int) x14_1 = some (r1, r2)) ∧ Aside0 (kq ≤ k) ∧ Aside0 (Kd.R Kd.string 9 w' w.heap.size (fun _ => True) (.slice Ao7 t101.length co7) t101) ∧ Aside0 (Kd.R Kd.string 9 w' w.heap.size (fun _ => True) (.slice Ao7 t101.length co7) t101) ∧ Aside0 (Below w.heap.size w w'))
    case atStart => exact ⟨(0), (by first | rfl | (simp; done) | (simp [*]; done)), H', ⟨Nat.le_refl _⟩, ⟨by (with_reducible repeat (first | apply Kd.R_alloc | apply Kd.R_drewN | apply Kd.R_drew)); exact HO103.out⟩, ⟨by (with_reducible repeat (first | apply Kd.R_alloc | apply Kd.R_drewN | apply Kd.R_drew)); exact HO103.out⟩, ⟨by repeat (first | (with_reducible first | exact HB.out | apply below_alloc | apply pw_below_drewN | apply below_drew1) | exact HB.out)⟩⟩
    case round =>
      clear H'
      try clear c1
      try clear p2
      try clear c3
      try clear c3b0
      try clear c3b1
      try clear c5
      obtain ⟨x14_1, rfl, HA, HK1, HO_4, HO_12, HB⟩ := hrel
      cases gk with
      | zero => exact absurd HA.out (by simp [label_Split.l0])
      | succ k1 =>
        have H := HA.out
        clear HA
        simp only [label_Split.l0] at H
        by_cases c8 : x14_1 < (t101.length : Int)
        · rw [if_pos c8] at H
          have c8b0 : decide (x14_1 < (t101.length : Int)) = true := decide_eq_true c8
          clear c8
          by_cases c9 : 0 ≤ x14_1
          · rw [if_pos c9] at H
            have c9b0 : decide (0 ≤ x14_1) = true := decide_eq_true c9
            clear c9
            by_cases c10 : x14_1 < (t101.length : Int)
            · rw [if_pos c10] at H
              have c10b0 : decide (x14_1 < (t101.length : Int)) = true := decide_eq_true c10
              clear c10
              replace H := Option.bind_eq_some_iff.mp H
              obtain ⟨t105, A110, H⟩ := H
              replace H : (if t105 = true then (label_Split.l0 k1 t101 t101 (t101.length : Int) (wrap64 (x14_1 + 1))) else (some (([] : List ByteArray), 50))) = some (r1, r2) := H
              have A11 := Aside0.mk A110
              clear A110
              by_cases c12 : t105 = true
              · subst c12
                have H1 : (label_Split.l0 k1 t101 t101 (t101.length : Int) (wrap64 (x14_1 + 1))) = some (r1, r2) := by rw [if_pos rfl] at H; exact H
                clear H
                have H := H1
                clear H1
                have H' := Aside0.mk H
                clear H
                have p104 : 0 ≤ (x14_1 : Int) := of_decide_eq_true (by first | (with_reducible assumption) | assumption)
                have q104 : x14_1 < (t101.length : Int) := of_decide_eq_true (by first | (with_reducible assumption) | assumption)
                obtain ⟨ad104, e104, hx104_0⟩ := Kd.at_string (Kd.R_reads' HO_12.out).2.2 x14_1 p104 q104
                cases e104
                replace p104 := eq_true p104
                replace q104 := eq_true q104
                go_wp2_with (first | ((with_reducible refine gate_callee (f := 11) rfl ?_); refine goesL_ (some 19) rfl rfl Tryd.func11 (by kernel_rfl) rfl #[.string (rdOf ByteArray.empty t101 x14_1)] rfl (by (try simp only [List.map_toArray, List.map_cons, List.map_nil]); first | done | rfl | (simp only [List.length_drop, List.length_take]; rfl)) ?_; (with_reducible refine (label_Name.calls (rdOf ByteArray.empty t101 x14_1) true _ A11.out).mono ?_); rintro e w13 ⟨rfl, hb⟩; refine ⟨_, rfl, ?_⟩; have n0_ := Aside0.mk (Kd.R_below (by (with_reducible repeat (first | apply Kd.R_alloc | apply Kd.R_drewN | apply Kd.R_drew)); exact HO_4.out) hb); have n1_ := Aside0.mk (Kd.R_below (by (with_reducible repeat (first | apply Kd.R_alloc | apply Kd.R_drewN | apply Kd.R_drew)); exact HO_12.out) hb); have n2_ := Aside0.mk (below_step (by repeat (first | (with_reducible first | exact HB.out | apply below_alloc | apply pw_below_drewN | apply below_drew1) | exact HB.out)) hb); clear HO_4; clear HO_12; clear HB; have HO_4 := n0_; have HO_12 := n1_; have HB := n2_; clear n0_ n1_ n2_; (try clear hb); (try clear hb2); (try clear hk); (try clear hi)))
                go_roundg k1
                case measure => have := HK1.out; omega
                case rel => exact ⟨(wrap64 (x14_1 + 1)), (by first | rfl | (simp; done) | (simp [*]; done)), H', ⟨by have := HK1.out; omega⟩, ⟨by (with_reducible repeat (first | apply Kd.R_alloc | apply Kd.R_drewN | apply Kd.R_drew)); exact HO_4.out⟩, ⟨by (with_reducible repeat (first | apply Kd.R_alloc | apply Kd.R_drewN | apply Kd.R_drew)); exact HO_12.out⟩, ⟨by repeat (first | (with_reducible first | exact HB.out | apply below_alloc | apply pw_below_drewN | apply below_drew1) | exact HB.out)⟩⟩
              · replace c12 := Bool.eq_false_iff.mpr c12
                subst c12
                have H1 : (some (([] : List ByteArray), 50)) = some (r1, r2) := by rw [if_neg (show ¬ (false = true) by decide)] at H; exact H
                clear H
                have H := H1
                clear H1
                simp only [Option.some.injEq, Prod.mk.injEq] at H
                obtain ⟨rfl, rfl⟩ := H
                have p104 : 0 ≤ (x14_1 : Int) := of_decide_eq_true (by first | (with_reducible assumption) | assumption)
                have q104 : x14_1 < (t101.length : Int) := of_decide_eq_true (by first | (with_reducible assumption) | assumption)
                obtain ⟨ad104, e104, hx104_0⟩ := Kd.at_string (Kd.R_reads' HO_12.out).2.2 x14_1 p104 q104
                cases e104
                replace p104 := eq_true p104
                replace q104 := eq_true q104
                go_wp2_with (first | ((with_reducible refine gate_callee (f := 11) rfl ?_); refine goesL_ (some 19) rfl rfl Tryd.func11 (by kernel_rfl) rfl #[.string (rdOf ByteArray.empty t101 x14_1)] rfl (by (try simp only [List.map_toArray, List.map_cons, List.map_nil]); first | done | rfl | (simp only [List.length_drop, List.length_take]; rfl)) ?_; (with_reducible refine (label_Name.calls (rdOf ByteArray.empty t101 x14_1) false _ A11.out).mono ?_); rintro e w14 ⟨rfl, hb⟩; refine ⟨_, rfl, ?_⟩; have n0_ := Aside0.mk (Kd.R_below (by (with_reducible repeat (first | apply Kd.R_alloc | apply Kd.R_drewN | apply Kd.R_drew)); exact HO_4.out) hb); have n1_ := Aside0.mk (Kd.R_below (by (with_reducible repeat (first | apply Kd.R_alloc | apply Kd.R_drewN | apply Kd.R_drew)); exact HO_12.out) hb); have n2_ := Aside0.mk (below_step (by repeat (first | (with_reducible first | exact HB.out | apply below_alloc | apply pw_below_drewN | apply below_drew1) | exact HB.out)) hb); clear HO_4; clear HO_12; clear HB; have HO_4 := n0_; have HO_12 := n1_; have HB := n2_; clear n0_ n1_ n2_; (try clear hb); (try clear hb2); (try clear hk); (try clear hi)))
                go_ret2
                exact ⟨_, by first | rfl | (simp [errW_none, errW_some] <;> rfl) | (simp [*, errW_none, errW_some] <;> rfl), by first | exact Kd.R_nil _ _ _ _ _ | exact Kd.N_nil _ _ _ _ _ | exact Kd.V_nil _ _ _ _ _ | exact Kd.Q_nil _ _ _ _ _ | exact Kd.S_nil _ _ _ _ _, by repeat (first | (with_reducible first | exact HB.out | apply below_alloc | apply pw_below_drewN | apply below_drew1) | exact HB.out)⟩
            · rw [if_neg c10] at H
              exact absurd H (by simp)
          · rw [if_neg c9] at H
            exact absurd H (by simp)
        · rw [if_neg c8] at H
          have c8b0 : decide (x14_1 < (t101.length : Int)) = false := decide_eq_false c8
          clear c8
          simp only [Option.some.injEq, Prod.mk.injEq] at H
          obtain ⟨rfl, rfl⟩ := H
          go_wp2
          go_ret2
          exact ⟨_, by first | rfl | (simp [errW_none, errW_some] <;> rfl) | (simp [*, errW_none, errW_some] <;> rfl), by (with_reducible repeat (first | apply Kd.R_alloc | apply Kd.R_drewN | apply Kd.R_drew)); exact HO_4.out, by repeat (first | (with_reducible first | exact HB.out | apply below_alloc | apply pw_below_drewN | apply below_drew1) | exact HB.out)⟩

/-! ### stringslite_HasPrefix: function 27 -/
def stringslite_HasPrefix.f (a0 : ByteArray) (a1 : ByteArray) : Option (Bool) := if (a0.size : Int) ≥ (a1.size : Int) then (if 0 ≤ (a1.size : Int) then (if (a1.size : Int) ≤ (a0.size : Int) then (some ((a0.extract 0 ((a1.size : Int) : Int).toNat).toList == a1.toList)) else (none)) else (none)) else (some false)
set_option maxHeartbeats 8000000 in
set_option maxRecDepth 100000 in
theorem stringslite_HasPrefix.calls (a0 : ByteArray) (a1 : ByteArray) (r : Bool) (w : World) (h : stringslite_HasPrefix.f a0 a1 = some r) :
    Calls Tryd.prog 27 #[.string a0, .string a1] w fun e w' => e = .returned (.bool r) ∧ Drawn0 w w' := by
  have H : (if (a0.size : Int) ≥ (a1.size : Int) then (if 0 ≤ (a1.size : Int) then (if (a1.size : Int) ≤ (a0.size : Int) then (some ((a0.extract 0 ((a1.size : Int) : Int).toNat).toList == a1.toList)) else (none)) else (none)) else (some false)) = some r := h
  clear h
  by_cases c3 : (a0.size : Int) ≥ (a1.size : Int)
  · rw [if_pos c3] at H
    have c3b0 : decide ((a1.size : Int) ≤ (a0.size : Int)) = true := decide_eq_true c3
    have c3b1 : decide (a1.size ≤ a0.size) = true := decide_eq_true (Int.ofNat_le.mp c3)
    clear c3
    by_cases c4 : 0 ≤ (a1.size : Int)
    · rw [if_pos c4] at H
      have c4b0 := eq_true c4
      have c4b1 : decide (0 ≤ (a1.size : Int)) = true := decide_eq_true c4
      clear c4
      by_cases c5 : (a1.size : Int) ≤ (a0.size : Int)
      · rw [if_pos c5] at H
        have c5b0 := eq_true c5
        have c5b1 : decide ((a1.size : Int) ≤ (a0.size : Int)) = true := decide_eq_true c5
        clear c5
        obtain rfl := Option.some.inj H
        go_enter Tryd.func27, Tryd.ntmps27
        go_wp2
        go_ret
        exact ⟨by first | rfl | (simp; done) | (simp [*]; done), by repeat (first | exact Drawn0.refl _ | apply Drawn0.step)⟩
      · rw [if_neg c5] at H
        exact absurd H (by simp)
    · rw [if_neg c4] at H
      exact absurd H (by simp)
  · rw [if_neg c3] at H
    have c3b0 : decide ((a1.size : Int) ≤ (a0.size : Int)) = false := decide_eq_false c3
    have c3b1 : decide (a1.size ≤ a0.size) = false := decide_eq_false (fun h => c3 (Int.ofNat_le.mpr h))
    clear c3
    obtain rfl := Option.some.inj H
    go_enter Tryd.func27, Tryd.ntmps27
    go_wp2
    go_ret
    exact ⟨by first | rfl | (simp; done) | (simp [*]; done), by repeat (first | exact Drawn0.refl _ | apply Drawn0.step)⟩

/-! ### strings_HasPrefix: function 18 -/
def strings_HasPrefix.f (a0 : ByteArray) (a1 : ByteArray) : Option (Bool) := (stringslite_HasPrefix.f a0 a1).bind fun t106 => (some t106)
set_option maxHeartbeats 8000000 in
set_option maxRecDepth 100000 in
theorem strings_HasPrefix.calls (a0 : ByteArray) (a1 : ByteArray) (r : Bool) (w : World) (h : strings_HasPrefix.f a0 a1 = some r) :
    Calls Tryd.prog 18 #[.string a0, .string a1] w fun e w' => e = .returned (.bool r) ∧ Drawn0 w w' := by
  have H : ((stringslite_HasPrefix.f a0 a1).bind fun t106 => (some t106)) = some r := h
  clear h
  replace H := Option.bind_eq_some_iff.mp H
  obtain ⟨t106, A30, H⟩ := H
  replace H : (some t106) = some r := H
  have A3 := Aside0.mk A30
  clear A30
  obtain rfl := Option.some.inj H
  go_enter Tryd.func18, Tryd.ntmps18
  go_wp2_with (first | ((with_reducible refine gate_callee (f := 27) rfl ?_); refine goesL_ (some 7) rfl rfl Tryd.func27 (by kernel_rfl) rfl #[.string a0, .string a1] rfl (by (try simp only [List.map_toArray, List.map_cons, List.map_nil]); first | done | rfl | (simp only [List.length_drop, List.length_take]; rfl)) ?_; (with_reducible refine (stringslite_HasPrefix.calls a0 a1 t106 _ A3.out).mono ?_); rintro e w' ⟨rfl, ⟨nd, rfl⟩⟩; refine ⟨_, rfl, ?_⟩))
  go_ret
  exact ⟨by first | rfl | (simp; done) | (simp [*]; done), by repeat (first | exact Drawn0.refl _ | apply Drawn0.step)⟩

/-! ### label_Words: function 12 (given by hand) -/
/-- What label.Words tells, from place pos on: runes, and bytes that are none. -/
def label_Words.go (s : ByteArray) : Nat → Nat → Int → Int → Int × Int
  | 0, _, r, b => (r, b)
  | n + 1, pos, r, b => if pos < s.size then (if ((Utf8.decode s pos).1 : Int) = 65533 ∧ strings_HasPrefix.f (s.extract pos s.size) (⟨#[239, 191, 189]⟩ : ByteArray) = some false then label_Words.go s n (pos + (Utf8.decode s pos).2) r (b + 1) else label_Words.go s n (pos + (Utf8.decode s pos).2) (r + 1) b) else (r, b)
def label_Words.f (a0 : ByteArray) : Option (Int × Int) := if a0.size ≤ 140737488351232 then some (label_Words.go a0 a0.size 0 0 0) else none
theorem label_Words.go_end (s : ByteArray) (n pos : Nat) (r b : Int) (h : ¬ pos < s.size) : label_Words.go s n pos r b = (r, b) := by
  cases n with
  | zero => rfl
  | succ n => simp [label_Words.go, h]
theorem label_Words.width_pos (s : ByteArray) (pos : Nat) (h : pos < s.size) : 1 ≤ (Utf8.decode s pos).2 := by
  by_cases ha : (s[pos]'h).toNat < 128
  · rw [decode_ascii s pos h ha]
    exact Nat.le_refl _
  · exact (decode_high s pos h (by omega)).2
theorem label_Words.hp_some (a b : ByteArray) : ∃ r, strings_HasPrefix.f a b = some r := by
  unfold strings_HasPrefix.f stringslite_HasPrefix.f
  by_cases h : (a.size : Int) ≥ (b.size : Int)
  · rw [if_pos h, if_pos (by omega), if_pos (by omega)]
    exact ⟨_, rfl⟩
  · rw [if_neg h]
    exact ⟨_, rfl⟩
set_option maxHeartbeats 4000000 in
set_option maxRecDepth 1000000 in
theorem label_Words.calls (a0 : ByteArray) (r1 : Int) (r2 : Int) (w : World) (h : label_Words.f a0 = some (r1, r2)) :
    Calls Tryd.prog 12 #[.string a0] w fun e w' => e = .returned (.tuple #[.int .i64 r1, .int .i64 r2]) ∧ Below w.heap.size w w' := by
  unfold label_Words.f at h
  by_cases hs : a0.size ≤ 140737488351232
  · rw [if_pos hs] at h
    have H := Aside0.mk (Option.some.inj h)
    clear h
    go_enter Tryd.func12, Tryd.ntmps12
    go_wp2_with fail
    go_loopw [4, 5] (fun n b wr => ∃ (pos fuel : Nat) (R B : Int), n = .int .i64 R ∧ b = .int .i64 B ∧ wr.heap[w.heap.size]? = some (.stringIter a0 pos) ∧ Below w.heap.size w wr ∧ Aside0 (label_Words.go a0 fuel pos R B = (r1, r2)) ∧ 0 ≤ R ∧ 0 ≤ B ∧ R + B ≤ pos ∧ pos ≤ a0.size + 4 ∧ a0.size ≤ pos + fuel) (fun _ _ wr => a0.size - wr.iterPos w.heap.size)
    case atStart =>
      exact ⟨0, a0.size, 0, 0, rfl, rfl, World.iter_heap w a0 0, (Below.refl _ w).alloc (Nat.le_refl _) _, H, by omega, by omega, by omega, by omega, by omega⟩
    case round =>
      obtain ⟨pos, fuel, R, B, rfl, rfl, hit, hbw, HG, hR, hB, hRB, hp4, hfu⟩ := hrel
      clear H
      by_cases hp : pos < a0.size
      · have hnx : ∀ ty, (Instr.next (.pointer (some ⟨w.heap.size, 0, none⟩)) true ty).run Tryd.prog wr = _ := fun ty => Lib.run_next_any_at wr w.heap.size a0 pos ty hit hp
        have hwd := label_Words.width_pos a0 pos hp
        have hw4 : (Utf8.decode a0 pos).2 ≤ 4 := by
          simp only [Utf8.decode]
          repeat' split
          all_goals simp
        have hit2 := Lib.iterAt_heap wr w.heap.size a0 pos (pos + (Utf8.decode a0 pos).2) hit
        have hbw2 := Lib.below_iterAt hbw (k := w.heap.size) (Nat.le_refl _) a0 (pos + (Utf8.decode a0 pos).2)
        obtain ⟨f, rfl⟩ : ∃ f, fuel = f + 1 := ⟨fuel - 1, by omega⟩
        have HG' := HG.out
        simp only [label_Words.go, if_pos hp] at HG'
        obtain ⟨q, hq⟩ := label_Words.hp_some (a0.extract pos a0.size) (⟨#[239, 191, 189]⟩ : ByteArray)
        rw [hq] at HG'
        have Q := Aside0.mk hq
        clear hq HG
        have hle : (pos : Int) ≤ (a0.size : Int) := by omega
        by_cases hc : ((Utf8.decode a0 pos).1 : Int) = 65533
        · have hcb : (((Utf8.decode a0 pos).1 : Int) == 65533) = true := beq_iff_eq.mpr hc
          cases q with
          | false =>
            rw [if_pos ⟨hc, rfl⟩] at HG'
            have HG := Aside0.mk HG'
            clear HG' hc
            go_wp2_with (go_at_call 18; refine (strings_HasPrefix.calls _ _ false _ Q.out).mono ?_; rintro e w' ⟨rfl, ⟨nd, rfl⟩⟩)
            go_roundw
            case rel => exact ⟨pos + (Utf8.decode a0 pos).2, f, R, B + 1, rfl, rfl, hit2, pw_below_drewN hbw2 _, HG, by omega, by omega, by omega, by omega, by omega⟩
            case measure =>
              simp only [World.iterPos, hit]
              rw [show ((wr.iterAt w.heap.size a0 (pos + (Utf8.decode a0 pos).2)).drewN nd).heap[w.heap.size]? = _ from hit2]
              simp only
              omega
          | true =>
            rw [if_neg (by simp)] at HG'
            have HG := Aside0.mk HG'
            clear HG' hc
            go_wp2_with (go_at_call 18; refine (strings_HasPrefix.calls _ _ true _ Q.out).mono ?_; rintro e w' ⟨rfl, ⟨nd, rfl⟩⟩)
            go_roundw
            case rel => exact ⟨pos + (Utf8.decode a0 pos).2, f, R + 1, B, rfl, rfl, hit2, pw_below_drewN hbw2 _, HG, by omega, by omega, by omega, by omega, by omega⟩
            case measure =>
              simp only [World.iterPos, hit]
              rw [show ((wr.iterAt w.heap.size a0 (pos + (Utf8.decode a0 pos).2)).drewN nd).heap[w.heap.size]? = _ from hit2]
              simp only
              omega
        · have hcb : (((Utf8.decode a0 pos).1 : Int) == 65533) = false := beq_eq_false_iff_ne.mpr hc
          rw [if_neg (by simp [hc])] at HG'
          have HG := Aside0.mk HG'
          clear HG' hc
          go_wp2_with fail
          go_roundw
          case rel => exact ⟨pos + (Utf8.decode a0 pos).2, f, R + 1, B, rfl, rfl, hit2, hbw2, HG, by omega, by omega, by omega, by omega, by omega⟩
          case measure =>
            simp only [World.iterPos, hit, hit2]
            omega
      · have hnx : ∀ ty, (Instr.next (.pointer (some ⟨w.heap.size, 0, none⟩)) true ty).run Tryd.prog wr = _ := fun ty => Lib.run_next_end_at wr w.heap.size a0 pos ty hit hp
        go_wp2_with fail
        go_ret2
        have HG' := HG.out
        rw [label_Words.go_end a0 fuel pos R B hp] at HG'
        simp only [Prod.mk.injEq] at HG'
        obtain ⟨rfl, rfl⟩ := HG'
        exact ⟨rfl, hbw⟩
  · rw [if_neg hs] at h
    cases h


/-! ### stringslite_CutPrefix: function 35 -/
def stringslite_CutPrefix.f (a0 : ByteArray) (a1 : ByteArray) : Option (ByteArray × Bool) := (stringslite_HasPrefix.f a0 a1).bind fun t107 => (if t107 = true then (if 0 ≤ (a1.size : Int) then (if (a1.size : Int) ≤ (a0.size : Int) then (some (a0.extract ((a1.size : Int) : Int).toNat a0.size, true)) else (none)) else (none)) else (some (a0, false)))
set_option maxHeartbeats 8000000 in
set_option maxRecDepth 100000 in
theorem stringslite_CutPrefix.calls (a0 : ByteArray) (a1 : ByteArray) (r1 : ByteArray) (r2 : Bool) (w : World) (h : stringslite_CutPrefix.f a0 a1 = some (r1, r2)) :
    Calls Tryd.prog 35 #[.string a0, .string a1] w fun e w' => e = .returned (.tuple #[.string r1, .bool r2]) ∧ Drawn0 w w' := by
  have H : ((stringslite_HasPrefix.f a0 a1).bind fun t107 => (if t107 = true then (if 0 ≤ (a1.size : Int) then (if (a1.size : Int) ≤ (a0.size : Int) then (some (a0.extract ((a1.size : Int) : Int).toNat a0.size, true)) else (none)) else (none)) else (some (a0, false)))) = some (r1, r2) := h
  clear h
  replace H := Option.bind_eq_some_iff.mp H
  obtain ⟨t107, A30, H⟩ := H
  replace H : (if t107 = true then (if 0 ≤ (a1.size : Int) then (if (a1.size : Int) ≤ (a0.size : Int) then (some (a0.extract ((a1.size : Int) : Int).toNat a0.size, true)) else (none)) else (none)) else (some (a0, false))) = some (r1, r2) := H
  have A3 := Aside0.mk A30
  clear A30
  by_cases c4 : t107 = true
  · subst c4
    have H1 : (if 0 ≤ (a1.size : Int) then (if (a1.size : Int) ≤ (a0.size : Int) then (some (a0.extract ((a1.size : Int) : Int).toNat a0.size, true)) else (none)) else (none)) = some (r1, r2) := by rw [if_pos rfl] at H; exact H
    clear H
    have H := H1
    clear H1
    by_cases c5 : 0 ≤ (a1.size : Int)
    · rw [if_pos c5] at H
      have c5b0 := eq_true c5
      have c5b1 : decide (0 ≤ (a1.size : Int)) = true := decide_eq_true c5
      clear c5
      by_cases c6 : (a1.size : Int) ≤ (a0.size : Int)
      · rw [if_pos c6] at H
        have c6b0 := eq_true c6
        have c6b1 : decide ((a1.size : Int) ≤ (a0.size : Int)) = true := decide_eq_true c6
        clear c6
        simp only [Option.some.injEq, Prod.mk.injEq] at H
        obtain ⟨rfl, rfl⟩ := H
        go_enter Tryd.func35, Tryd.ntmps35
        go_wp2_with (first | ((with_reducible refine gate_callee (f := 27) rfl ?_); refine goesL_ (some 8) rfl rfl Tryd.func27 (by kernel_rfl) rfl #[.string a0, .string a1] rfl (by (try simp only [List.map_toArray, List.map_cons, List.map_nil]); first | done | rfl | (simp only [List.length_drop, List.length_take]; rfl)) ?_; (with_reducible refine (stringslite_HasPrefix.calls a0 a1 true _ A3.out).mono ?_); rintro e w' ⟨rfl, ⟨nd, rfl⟩⟩; refine ⟨_, rfl, ?_⟩))
        go_ret2
        exact ⟨by first | rfl | (simp; done) | (simp [*]; done), by repeat (first | exact Drawn0.refl _ | apply Drawn0.step)⟩
      · rw [if_neg c6] at H
        exact absurd H (by simp)
    · rw [if_neg c5] at H
      exact absurd H (by simp)
  · replace c4 := Bool.eq_false_iff.mpr c4
    subst c4
    have H1 : (some (a0, false)) = some (r1, r2) := by rw [if_neg (show ¬ (false = true) by decide)] at H; exact H
    clear H
    have H := H1
    clear H1
    simp only [Option.some.injEq, Prod.mk.injEq] at H
    obtain ⟨rfl, rfl⟩ := H
    go_enter Tryd.func35, Tryd.ntmps35
    go_wp2_with (first | ((with_reducible refine gate_callee (f := 27) rfl ?_); refine goesL_ (some 8) rfl rfl Tryd.func27 (by kernel_rfl) rfl #[.string a0, .string a1] rfl (by (try simp only [List.map_toArray, List.map_cons, List.map_nil]); first | done | rfl | (simp only [List.length_drop, List.length_take]; rfl)) ?_; (with_reducible refine (stringslite_HasPrefix.calls a0 a1 false _ A3.out).mono ?_); rintro e w' ⟨rfl, ⟨nd, rfl⟩⟩; refine ⟨_, rfl, ?_⟩))
    go_ret2
    exact ⟨by first | rfl | (simp; done) | (simp [*]; done), by repeat (first | exact Drawn0.refl _ | apply Drawn0.step)⟩

/-! ### strings_CutPrefix: function 28 -/
def strings_CutPrefix.f (a0 : ByteArray) (a1 : ByteArray) : Option (ByteArray × Bool) := (stringslite_CutPrefix.f a0 a1).bind fun bt108 => (some (bt108.1, bt108.2))
set_option maxHeartbeats 8000000 in
set_option maxRecDepth 100000 in
theorem strings_CutPrefix.calls (a0 : ByteArray) (a1 : ByteArray) (r1 : ByteArray) (r2 : Bool) (w : World) (h : strings_CutPrefix.f a0 a1 = some (r1, r2)) :
    Calls Tryd.prog 28 #[.string a0, .string a1] w fun e w' => e = .returned (.tuple #[.string r1, .bool r2]) ∧ Drawn0 w w' := by
  have H : ((stringslite_CutPrefix.f a0 a1).bind fun bt108 => (some (bt108.1, bt108.2))) = some (r1, r2) := h
  clear h
  replace H := Option.bind_eq_some_iff.mp H
  obtain ⟨⟨t108, t109⟩, A30, H⟩ := H
  replace H : (some (t108, t109)) = some (r1, r2) := H
  have A3 := Aside0.mk A30
  clear A30
  simp only [Option.some.injEq, Prod.mk.injEq] at H
  obtain ⟨rfl, rfl⟩ := H
  go_enter Tryd.func28, Tryd.ntmps28
  go_wp2_with (first | ((with_reducible refine gate_callee (f := 35) rfl ?_); refine goesL_ (some 8) rfl rfl Tryd.func35 (by kernel_rfl) rfl #[.string a0, .string a1] rfl (by (try simp only [List.map_toArray, List.map_cons, List.map_nil]); first | done | rfl | (simp only [List.length_drop, List.length_take]; rfl)) ?_; (with_reducible refine (stringslite_CutPrefix.calls a0 a1 t108 t109 _ A3.out).mono ?_); rintro e w' ⟨rfl, ⟨nd, rfl⟩⟩; refine ⟨_, rfl, ?_⟩))
  go_ret2
  exact ⟨by first | rfl | (simp; done) | (simp [*]; done), by repeat (first | exact Drawn0.refl _ | apply Drawn0.step)⟩

/-! ### label_Ref: function 19 (given by hand) -/
/-- May a rune stand in a ref's name? -/
def label_Ref.ok (r : Int) : Bool := !((r < 97 || 122 < r) && (r < 48 || 57 < r) && r != 45 && r != 95)
/-- Are the runes from place pos on such as may stand in a ref's name? -/
def label_Ref.go (s : ByteArray) : Nat → Nat → Bool
  | 0, _ => true
  | n + 1, pos => if pos < s.size then (if label_Ref.ok ((Utf8.decode s pos).1 : Int) = false then false else label_Ref.go s n (pos + (Utf8.decode s pos).2)) else true
/-- What stands behind heads/ or tags/ -/
def label_Ref.tail (a0 : ByteArray) : Bool := if a0.toList = ([] : List UInt8) then false else (if (a0.size : Int) > 64 then false else label_Ref.go a0 a0.size 0)
def label_Ref.f (a0 : ByteArray) : Option (Bool) := (strings_CutPrefix.f a0 (⟨#[104, 101, 97, 100, 115, 47]⟩ : ByteArray)).bind fun x => if x.2 = true then some (label_Ref.tail x.1) else ((strings_CutPrefix.f a0 (⟨#[116, 97, 103, 115, 47]⟩ : ByteArray)).bind fun y => if y.2 = true then some (label_Ref.tail y.1) else some false)
theorem label_Ref.go_end (s : ByteArray) (n pos : Nat) (h : ¬ pos < s.size) : label_Ref.go s n pos = true := by
  cases n with
  | zero => rfl
  | succ n => simp [label_Ref.go, h]
theorem label_Ref.width_pos (s : ByteArray) (pos : Nat) (h : pos < s.size) : 1 ≤ (Utf8.decode s pos).2 := by
  by_cases ha : (s[pos]'h).toNat < 128
  · rw [decode_ascii s pos h ha]
    exact Nat.le_refl _
  · exact (decode_high s pos h (by omega)).2
theorem label_Ref.cut_some (a b : ByteArray) : ∃ r1 r2, strings_CutPrefix.f a b = some (r1, r2) := by
  unfold strings_CutPrefix.f stringslite_CutPrefix.f stringslite_HasPrefix.f
  by_cases h : (a.size : Int) ≥ (b.size : Int)
  · rw [if_pos h, if_pos (by omega), if_pos (by omega)]
    simp only [Option.bind_some]
    split
    · exact ⟨_, _, rfl⟩
    · exact ⟨_, _, rfl⟩
  · rw [if_neg h]
    exact ⟨_, _, rfl⟩
set_option maxHeartbeats 8000000 in
set_option maxRecDepth 1000000 in
theorem label_Ref.calls (a0 : ByteArray) (r : Bool) (w : World) (h : label_Ref.f a0 = some r) :
    Calls Tryd.prog 19 #[.string a0] w fun e w' => e = .returned (.bool r) ∧ Below w.heap.size w w' := by
  unfold label_Ref.f at h
  obtain ⟨⟨x1, x2⟩, hx, h⟩ := Option.bind_eq_some_iff.mp h
  have X := Aside0.mk hx
  have H := Aside0.mk h
  clear hx h
  go_enter Tryd.func19, Tryd.ntmps19
  go_upto_if 13 with (go_at_call 28; refine (strings_CutPrefix.calls _ _ x1 x2 _ X.out).mono ?_; rintro e w' ⟨rfl, ⟨nd, rfl⟩⟩)
  go_cut [3, 4] (fun v3 v4 wc => ∃ (x : ByteArray) (b : Bool), v3 = .string x ∧ v4 = .bool b ∧ Aside0 ((if b = true then label_Ref.tail x else false) = r) ∧ Drawn0 w wc)
  case first =>
    cases x2 with
    | true =>
      have H' := H.out
      rw [if_pos rfl] at H'
      have HT := Aside0.mk (show (if true = true then label_Ref.tail x1 else false) = r by rw [if_pos rfl]; exact Option.some.inj H')
      clear H' H
      go_wp2_with fail
      go_meet
      case rel => exact ⟨x1, true, rfl, rfl, HT, by repeat (first | exact Drawn0.refl _ | apply Drawn0.step)⟩
    | false =>
      have H' := H.out
      rw [if_neg (by simp)] at H'
      obtain ⟨⟨y1, y2⟩, hy, h⟩ := Option.bind_eq_some_iff.mp H'
      have Y := Aside0.mk hy
      have HT := Aside0.mk (show (if y2 = true then label_Ref.tail y1 else false) = r by
        cases y2
        · rw [if_neg (by simp)] at h ⊢
          exact Option.some.inj h
        · rw [if_pos rfl] at h ⊢
          exact Option.some.inj h)
      clear H' H hy h
      go_wp2_with (go_at_call 28; refine (strings_CutPrefix.calls _ _ y1 y2 _ Y.out).mono ?_; rintro e w' ⟨rfl, ⟨nd, rfl⟩⟩)
      go_meet
      case rel => exact ⟨y1, y2, rfl, rfl, HT, by repeat (first | exact Drawn0.refl _ | apply Drawn0.step)⟩
  case rest =>
    obtain ⟨x, b, rfl, rfl, HT, ⟨nc, rfl⟩⟩ := hcut
    clear H X
    cases b with
    | false =>
      have H' := HT.out
      rw [if_neg (by simp)] at H'
      subst H'
      clear HT
      go_wp2_with fail
      go_ret
      exact ⟨rfl, pw_below_drewN (Below.refl _ _) _⟩
    | true =>
      have h := HT.out
      rw [if_pos rfl] at h
      unfold label_Ref.tail at h
      clear HT
      by_cases c3 : x.toList = ([] : List UInt8)
      · rw [if_pos c3] at h
        subst h
        have c3b0 : (x.toList == ([] : List UInt8)) = true := beq_iff_eq.mpr c3
        clear c3
        go_wp2_with fail
        go_ret
        exact ⟨rfl, pw_below_drewN (Below.refl _ _) _⟩
      rw [if_neg c3] at h
      have c3b0 : (x.toList == ([] : List UInt8)) = false := beq_eq_false_iff_ne.mpr c3
      by_cases c4 : (x.size : Int) > 64
      · rw [if_pos c4] at h
        subst h
        have c4b0 : decide (64 < (x.size : Int)) = true := decide_eq_true c4
        have c4b1 : decide (64 < x.size) = true := decide_eq_true (by omega)
        clear c3 c4
        go_wp2_with fail
        go_ret
        exact ⟨rfl, pw_below_drewN (Below.refl _ _) _⟩
      rw [if_neg c4] at h
      have hs : x.size ≤ 64 := by omega
      have c4b0 : decide (64 < (x.size : Int)) = false := decide_eq_false c4
      have c4b1 : decide (64 < x.size) = false := decide_eq_false (by omega)
      have H := Aside0.mk h
      clear c3 c4 h
      go_wp2_with fail
      clear c3b0 c4b0 c4b1
      go_loopw [] (fun wr => ∃ (pos fuel : Nat), wr.heap[w.heap.size]? = some (.stringIter x pos) ∧ Below w.heap.size w wr ∧ Aside0 (label_Ref.go x fuel pos = r) ∧ pos ≤ x.size + 4 ∧ x.size ≤ pos + fuel) (fun wr => x.size - wr.iterPos w.heap.size)
      case atStart =>
        exact ⟨0, x.size, World.iter_heap w x 0, pw_below_drewN ((Below.refl _ w).alloc (Nat.le_refl _) _) _, H, by omega, by omega⟩
      case round =>
        obtain ⟨pos, fuel, hit, hbw, HG, hp4, hfu⟩ := hrel
        clear H
        by_cases hp : pos < x.size
        · have hnx : ∀ ty, (Instr.next (.pointer (some ⟨w.heap.size, 0, none⟩)) true ty).run Tryd.prog wr = _ := fun ty => Lib.run_next_any_at wr w.heap.size x pos ty hit hp
          have hwd := label_Ref.width_pos x pos hp
          have hw4 : (Utf8.decode x pos).2 ≤ 4 := by
            simp only [Utf8.decode]
            repeat' split
            all_goals simp
          have hit2 := Lib.iterAt_heap wr w.heap.size x pos (pos + (Utf8.decode x pos).2) hit
          have hbw2 := Lib.below_iterAt hbw (k := w.heap.size) (Nat.le_refl _) x (pos + (Utf8.decode x pos).2)
          obtain ⟨f, rfl⟩ : ∃ f, fuel = f + 1 := ⟨fuel - 1, by omega⟩
          have HG' := HG.out
          simp only [label_Ref.go, if_pos hp] at HG'
          clear HG
          have hiff : label_Ref.ok ((Utf8.decode x pos).1 : Int) = false ↔ ((((Utf8.decode x pos).1 : Int) < 97 ∨ 122 < ((Utf8.decode x pos).1 : Int)) ∧ (((Utf8.decode x pos).1 : Int) < 48 ∨ 57 < ((Utf8.decode x pos).1 : Int)) ∧ ((Utf8.decode x pos).1 : Int) ≠ 45 ∧ ((Utf8.decode x pos).1 : Int) ≠ 95) := by
            simp [label_Ref.ok, and_assoc]
            omega
          generalize hq : label_Ref.ok ((Utf8.decode x pos).1 : Int) = q at HG' hiff
          clear hq
          cases q with
          | false =>
            rw [if_pos rfl] at HG'
            subst HG'
            obtain ⟨h1, h2, h3, h4⟩ := hiff.mp rfl
            clear hiff
            generalize ((Utf8.decode x pos).1 : Int) = v at *
            have e3 : (v != 45) = true := bne_iff_ne.mpr h3
            have e4 : (v != 95) = true := bne_iff_ne.mpr h4
            clear h3 h4
            rcases h1 with h1 | h1
            all_goals rcases h2 with h2 | h2
            all_goals (try (exfalso; omega))
            all_goals go_wp2_with fail
            all_goals go_ret
            all_goals exact ⟨rfl, hbw2⟩
          | true =>
            rw [if_neg (by simp)] at HG'
            have HG := Aside0.mk HG'
            clear HG'
            have hno : ¬ _ := fun hh => absurd (hiff.mpr hh) (by simp)
            clear hiff
            have hv : (97 ≤ ((Utf8.decode x pos).1 : Int) ∧ ((Utf8.decode x pos).1 : Int) ≤ 122) ∨ (48 ≤ ((Utf8.decode x pos).1 : Int) ∧ ((Utf8.decode x pos).1 : Int) ≤ 57) ∨ ((Utf8.decode x pos).1 : Int) = 45 ∨ ((Utf8.decode x pos).1 : Int) = 95 := by omega
            clear hno
            generalize ((Utf8.decode x pos).1 : Int) = v at *
            rcases hv with ⟨h1, h2⟩ | ⟨h1, h2⟩ | rfl | rfl
            all_goals go_wp2_with fail
            all_goals go_roundw
            all_goals first | exact ⟨pos + (Utf8.decode x pos).2, f, hit2, hbw2, HG, by omega, by omega⟩ | (simp only [World.iterPos, hit, hit2]; omega)
        · have hnx : ∀ ty, (Instr.next (.pointer (some ⟨w.heap.size, 0, none⟩)) true ty).run Tryd.prog wr = _ := fun ty => Lib.run_next_end_at wr w.heap.size x pos ty hit hp
          have HG' := HG.out
          rw [label_Ref.go_end x fuel pos hp] at HG'
          subst HG'
          go_wp2_with fail
          go_ret
          exact ⟨rfl, hbw⟩


/-! ### label_Head: function 13 -/
def label_Head.f (a0 : ByteArray) : Option (Bool) := (label_Ref.f a0).bind fun t110 => (if t110 = true then ((strings_HasPrefix.f a0 (⟨#[104, 101, 97, 100, 115, 47]⟩ : ByteArray)).bind fun t111 => (some t111)) else (some false))
set_option maxHeartbeats 8000000 in
set_option maxRecDepth 100000 in
theorem label_Head.calls (a0 : ByteArray) (r : Bool) (w : World) (h : label_Head.f a0 = some r) :
    Calls Tryd.prog 13 #[.string a0] w fun e w' => e = .returned (.bool r) ∧ Below w.heap.size w w' := by
  have HB := Aside0.mk (Below.refl w.heap.size w)
  have H : ((label_Ref.f a0).bind fun t110 => (if t110 = true then ((strings_HasPrefix.f a0 (⟨#[104, 101, 97, 100, 115, 47]⟩ : ByteArray)).bind fun t111 => (some t111)) else (some false))) = some r := h
  clear h
  replace H := Option.bind_eq_some_iff.mp H
  obtain ⟨t110, A20, H⟩ := H
  replace H : (if t110 = true then ((strings_HasPrefix.f a0 (⟨#[104, 101, 97, 100, 115, 47]⟩ : ByteArray)).bind fun t111 => (some t111)) else (some false)) = some r := H
  have A2 := Aside0.mk A20
  clear A20
  by_cases c3 : t110 = true
  · subst c3
    have H1 : ((strings_HasPrefix.f a0 (⟨#[104, 101, 97, 100, 115, 47]⟩ : ByteArray)).bind fun t111 => (some t111)) = some r := by rw [if_pos rfl] at H; exact H
    clear H
    have H := H1
    clear H1
    replace H := Option.bind_eq_some_iff.mp H
    obtain ⟨t111, A40, H⟩ := H
    replace H : (some t111) = some r := H
    have A4 := Aside0.mk A40
    clear A40
    obtain rfl := Option.some.inj H
    go_enter Tryd.func13, Tryd.ntmps13
    go_wp2_with (first | ((with_reducible refine gate_callee (f := 19) rfl ?_); refine goesL_ (some 4) rfl rfl Tryd.func19 (by kernel_rfl) rfl #[.string a0] rfl (by (try simp only [List.map_toArray, List.map_cons, List.map_nil]); first | done | rfl | (simp only [List.length_drop, List.length_take]; rfl)) ?_; (with_reducible refine (label_Ref.calls a0 true _ A2.out).mono ?_); rintro e w5 ⟨rfl, hb⟩; refine ⟨_, rfl, ?_⟩; have n0_ := Aside0.mk (below_step (by repeat (first | (with_reducible first | exact HB.out | apply below_alloc | apply pw_below_drewN | apply below_drew1) | exact HB.out)) hb); clear HB; have HB := n0_; clear n0_; (try clear hb); (try clear hb2); (try clear hk); (try clear hi)) | (go_at_call 18; (with_reducible refine (strings_HasPrefix.calls a0 (⟨#[104, 101, 97, 100, 115, 47]⟩ : ByteArray) t111 _ A4.out).mono ?_); rintro e w' ⟨rfl, ⟨nd, rfl⟩⟩))
    go_ret
    exact ⟨by first | rfl | (simp [errW_none, errW_some] <;> rfl) | (simp [*, errW_none, errW_some] <;> rfl), by repeat (first | (with_reducible first | exact HB.out | apply below_alloc | apply pw_below_drewN | apply below_drew1) | exact HB.out)⟩
  · replace c3 := Bool.eq_false_iff.mpr c3
    subst c3
    have H1 : (some false) = some r := by rw [if_neg (show ¬ (false = true) by decide)] at H; exact H
    clear H
    have H := H1
    clear H1
    obtain rfl := Option.some.inj H
    go_enter Tryd.func13, Tryd.ntmps13
    go_wp2_with (first | ((with_reducible refine gate_callee (f := 19) rfl ?_); refine goesL_ (some 4) rfl rfl Tryd.func19 (by kernel_rfl) rfl #[.string a0] rfl (by (try simp only [List.map_toArray, List.map_cons, List.map_nil]); first | done | rfl | (simp only [List.length_drop, List.length_take]; rfl)) ?_; (with_reducible refine (label_Ref.calls a0 false _ A2.out).mono ?_); rintro e w6 ⟨rfl, hb⟩; refine ⟨_, rfl, ?_⟩; have n0_ := Aside0.mk (below_step (by repeat (first | (with_reducible first | exact HB.out | apply below_alloc | apply pw_below_drewN | apply below_drew1) | exact HB.out)) hb); clear HB; have HB := n0_; clear n0_; (try clear hb); (try clear hb2); (try clear hk); (try clear hi)))
    go_ret
    exact ⟨by first | rfl | (simp [errW_none, errW_some] <;> rfl) | (simp [*, errW_none, errW_some] <;> rfl), by repeat (first | (with_reducible first | exact HB.out | apply below_alloc | apply pw_below_drewN | apply below_drew1) | exact HB.out)⟩

end Go.Proofs.YtcgdpaaemiecgaaDoor.M
