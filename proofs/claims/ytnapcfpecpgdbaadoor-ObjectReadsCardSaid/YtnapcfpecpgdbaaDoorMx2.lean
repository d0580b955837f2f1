/- The program's functions as plain functions, and that each call comes to what these tell; written by a program of this session, some contracts by hand. Conditions: none. -/
import Derived.Test.YtnapcfpecpgdbaaDoorMx0
namespace Go.Proofs.YtnapcfpecpgdbaaDoor.M
open Go.RowKit Go.Proofs.YtnapcfpecpgdbaaDoorW.PrintWords Go.Proofs.YtnapcfpecpgdbaaDoorW.PrintLast Go.Proofs.YtnapcfpecpgdbaaDoorW.PrintMore
attribute [local go_sem] max2_int min2_int max_two min_two max_three min_three max_four min_four   -- for this text's walks alone
set_option linter.unusedVariables false
set_option linter.unusedSimpArgs false

/-! ### label_plain: function 78 -/
def label_plain.f (a0 : Int) : Option (Bool) := if a0 ≥ 32 then (if a0 = 47 then (some false) else (if a0 = 65533 then (some false) else (if a0 < 127 then (some true) else (some (decide (a0 > 159)))))) else (some false)
set_option maxHeartbeats 8000000 in
set_option maxRecDepth 100000 in
theorem label_plain.calls (a0 : Int) (r : Bool) (w : World) (h : label_plain.f a0 = some r) :
 Calls Tryd.prog 78 #[.int .i32 a0] w fun e w' => e = .returned (.bool r) ∧ Drawn0 w w' := by
 have H : (if a0 ≥ 32 then (if a0 = 47 then (some false) else (if a0 = 65533 then (some false) else (if a0 < 127 then (some true) else (some (decide (a0 > 159)))))) else (some false)) = some r := h
 clear h
 by_cases c2 : a0 ≥ 32
 ·
  rw [if_pos c2] at H
  have c2b0 : decide (32 ≤ a0) = true := decide_eq_true c2
  clear c2
  by_cases c3 : a0 = 47
  · rw [if_pos c3] at H
    have c3b0 : (a0 == 47) = true := beq_iff_eq.mpr c3
    have c3b1 : (a0 != 47) = false := bne_eq_false_iff_eq.mpr c3
    clear c3
    obtain rfl := Option.some.inj H
    go_enter Tryd.func78, Tryd.ntmps78
    go_wp2
    go_ret
    exact ⟨by first | rfl | (simp; done) | (simp [*]; done), by repeat (first | exact Drawn0.refl _ | apply Drawn0.step)⟩
  ·
   rw [if_neg c3] at H
   have c3b0 : (a0 == 47) = false := beq_eq_false_iff_ne.mpr c3
   have c3b1 : (a0 != 47) = true := bne_iff_ne.mpr c3
   by_cases c4 : a0 = 65533
   · rw [if_pos c4] at H
     have c4b0 : (a0 == 65533) = true := beq_iff_eq.mpr c4
     have c4b1 : (a0 != 65533) = false := bne_eq_false_iff_eq.mpr c4
     clear c4
     obtain rfl := Option.some.inj H
     go_enter Tryd.func78, Tryd.ntmps78
     go_wp2
     go_ret
     exact ⟨by first | rfl | (simp; done) | (simp [*]; done), by repeat (first | exact Drawn0.refl _ | apply Drawn0.step)⟩
   ·
    rw [if_neg c4] at H
    have c4b0 : (a0 == 65533) = false := beq_eq_false_iff_ne.mpr c4
    have c4b1 : (a0 != 65533) = true := bne_iff_ne.mpr c4
    by_cases c5 : a0 < 127
    · rw [if_pos c5] at H
      have c5b0 : decide (a0 < 127) = true := decide_eq_true c5
      clear c5
      obtain rfl := Option.some.inj H
      go_enter Tryd.func78, Tryd.ntmps78
      go_wp2
      go_ret
      exact ⟨by first | rfl | (simp; done) | (simp [*]; done), by repeat (first | exact Drawn0.refl _ | apply Drawn0.step)⟩
    · rw [if_neg c5] at H
      have c5b0 : decide (a0 < 127) = false := decide_eq_false c5
      clear c5
      obtain rfl := Option.some.inj H
      go_enter Tryd.func78, Tryd.ntmps78
      go_wp2
      go_ret
      exact ⟨by first | rfl | (simp; done) | (simp [*]; done), by repeat (first | exact Drawn0.refl _ | apply Drawn0.step)⟩
 · rw [if_neg c2] at H
   have c2b0 : decide (32 ≤ a0) = false := decide_eq_false c2
   clear c2
   obtain rfl := Option.some.inj H
   go_enter Tryd.func78, Tryd.ntmps78
   go_wp2
   go_ret
   exact ⟨by first | rfl | (simp; done) | (simp [*]; done), by repeat (first | exact Drawn0.refl _ | apply Drawn0.step)⟩

/-! ### label_Name: function 59 (given by hand) -/
/-- Are the runes from place pos on such as may stand in a name? -/
def label_Name.go (s : ByteArray) : Nat → Nat → Bool
 | 0, _ => true
 | n + 1, pos => if pos < s.size then (if label_plain.f ((Utf8.decode s pos).1 : Int) = some false then false else label_Name.go s n (pos + (Utf8.decode s pos).2)) else true
def label_Name.f (a0 : ByteArray) : Option (Bool) := if a0.toList = ([] : List UInt8) then some false else (if (a0.size : Int) > 64 then some false else (if a0.toList = ([46] : List UInt8) then some false else (if a0.toList = ([46, 46] : List UInt8) then some false else some (label_Name.go a0 a0.size 0))))
theorem label_Name.go_end (s : ByteArray) (n pos : Nat) (h : ¬ pos < s.size) : label_Name.go s n pos = true := by
 cases n with
 | zero => rfl
 | succ n => simp [label_Name.go, h]
theorem label_Name.width_pos (s : ByteArray) (pos : Nat) (h : pos < s.size) : 1 ≤ (Utf8.decode s pos).2 := by
 by_cases ha : (s[pos]'h).toNat < 128
 · rw [decode_ascii s pos h ha]
   exact Nat.le_refl _
 · exact (decode_high s pos h (by omega)).2
theorem label_Name.plain_some (c : Int) : ∃ r, label_plain.f c = some r := by
 unfold label_plain.f
 repeat' split
 all_goals exact ⟨_, rfl⟩
set_option maxHeartbeats 4000000 in
set_option maxRecDepth 1000000 in
theorem label_Name.calls (a0 : ByteArray) (r : Bool) (w : World) (h : label_Name.f a0 = some r) :
 Calls Tryd.prog 59 #[.string a0] w fun e w' => e = .returned (.bool r) ∧ Below w.heap.size w w' := by
 unfold label_Name.f at h
 by_cases c3 : a0.toList = ([] : List UInt8)
 · rw [if_pos c3] at h
   obtain rfl := Option.some.inj h
   have c3b0 : (a0.toList == ([] : List UInt8)) = true := beq_iff_eq.mpr c3
   clear c3 h
   go_enter Tryd.func59, Tryd.ntmps59
   go_wp2_with fail
   go_ret
   exact ⟨rfl, Below.refl _ _⟩
 rw [if_neg c3] at h
 have c3b0 : (a0.toList == ([] : List UInt8)) = false := beq_eq_false_iff_ne.mpr c3
 by_cases c4 : (a0.size : Int) > 64
 · rw [if_pos c4] at h
   obtain rfl := Option.some.inj h
   have c4b0 : decide (64 < (a0.size : Int)) = true := decide_eq_true c4
   have c4b1 : decide (64 < a0.size) = true := decide_eq_true (by omega)
   clear c3 c4 h
   go_enter Tryd.func59, Tryd.ntmps59
   go_wp2_with fail
   go_ret
   exact ⟨rfl, Below.refl _ _⟩
 rw [if_neg c4] at h
 have hs : a0.size ≤ 64 := by omega
 have c4b0 : decide (64 < (a0.size : Int)) = false := decide_eq_false c4
 have c4b1 : decide (64 < a0.size) = false := decide_eq_false (by omega)
 clear c4
 by_cases c5 : a0.toList = ([46] : List UInt8)
 · rw [if_pos c5] at h
   obtain rfl := Option.some.inj h
   have c5b0 : (a0.toList == ([46] : List UInt8)) = true := beq_iff_eq.mpr c5
   clear c3 c5 h
   go_enter Tryd.func59, Tryd.ntmps59
   go_wp2_with fail
   go_ret
   exact ⟨rfl, Below.refl _ _⟩
 rw [if_neg c5] at h
 have c5b0 : (a0.toList == ([46] : List UInt8)) = false := beq_eq_false_iff_ne.mpr c5
 clear c5
 by_cases c6 : a0.toList = ([46, 46] : List UInt8)
 · rw [if_pos c6] at h
   obtain rfl := Option.some.inj h
   have c6b0 : (a0.toList == ([46, 46] : List UInt8)) = true := beq_iff_eq.mpr c6
   clear c3 c6 h
   go_enter Tryd.func59, Tryd.ntmps59
   go_wp2_with fail
   go_ret
   exact ⟨rfl, Below.refl _ _⟩
 rw [if_neg c6] at h
 have c6b0 : (a0.toList == ([46, 46] : List UInt8)) = false := beq_eq_false_iff_ne.mpr c6
 have H := Aside0.mk (Option.some.inj h)
 clear c3 c6 h
 go_enter Tryd.func59, Tryd.ntmps59
 go_wp2_with fail
 clear c3b0 c4b0 c4b1 c5b0 c6b0
 go_loopw [] (fun wr => ∃ (pos fuel : Nat), wr.heap[w.heap.size]? = some (.stringIter a0 pos) ∧ Below w.heap.size w wr ∧ Aside0 (label_Name.go a0 fuel pos = r) ∧ pos ≤ a0.size + 4 ∧ a0.size ≤ pos + fuel) (fun wr => a0.size - wr.iterPos w.heap.size)
 case atStart =>
  exact ⟨0, a0.size, World.iter_heap w a0 0, (Below.refl _ w).alloc (Nat.le_refl _) _, H, by omega, by omega⟩
 case round =>
  obtain ⟨pos, fuel, hit, hbw, HG, hp4, hfu⟩ := hrel
  clear H
  by_cases hp : pos < a0.size
  ·
   have hnx : ∀ ty, (Instr.next (.pointer (some ⟨w.heap.size, 0, none⟩)) true ty).run Tryd.prog wr = _ := fun ty => Lib.run_next_any_at wr w.heap.size a0 pos ty hit hp
   have hwd := label_Name.width_pos a0 pos hp
   have hw4 : (Utf8.decode a0 pos).2 ≤ 4 := by
    simp only [Utf8.decode]
    repeat' split
    all_goals simp
   have hit2 := Lib.iterAt_heap wr w.heap.size a0 pos (pos + (Utf8.decode a0 pos).2) hit
   have hbw2 := Lib.below_iterAt hbw (k := w.heap.size) (Nat.le_refl _) a0 (pos + (Utf8.decode a0 pos).2)
   obtain ⟨f, rfl⟩ : ∃ f, fuel = f + 1 := ⟨fuel - 1, by omega⟩
   have HG' := HG.out
   simp only [label_Name.go, if_pos hp] at HG'
   obtain ⟨q, hq⟩ := label_Name.plain_some ((Utf8.decode a0 pos).1 : Int)
   rw [hq] at HG'
   have Q := Aside0.mk hq
   clear hq HG
   cases q with
   | false =>
    rw [if_pos rfl] at HG'
    subst HG'
    go_wp2_with (go_at_call 78; refine (label_plain.calls _ false _ Q.out).mono ?_; rintro e w' ⟨rfl, ⟨nd, rfl⟩⟩)
    go_ret
    exact ⟨rfl, pw_below_drewN hbw2 _⟩
   | true =>
    rw [if_neg (by simp)] at HG'
    have HG := Aside0.mk HG'
    clear HG'
    go_wp2_with (go_at_call 78; refine (label_plain.calls _ true _ Q.out).mono ?_; rintro e w' ⟨rfl, ⟨nd, rfl⟩⟩)
    go_roundw
    case rel => exact ⟨pos + (Utf8.decode a0 pos).2, f, hit2, pw_below_drewN hbw2 _, HG, by omega, by omega⟩
    case measure =>
     simp only [World.iterPos, hit]
     rw [show ((wr.iterAt w.heap.size a0 (pos + (Utf8.decode a0 pos).2)).drewN nd).heap[w.heap.size]? = _ from hit2]
     simp only
     omega
  · have hnx : ∀ ty, (Instr.next (.pointer (some ⟨w.heap.size, 0, none⟩)) true ty).run Tryd.prog wr = _ := fun ty => Lib.run_next_end_at wr w.heap.size a0 pos ty hit hp
    have HG' := HG.out
    rw [label_Name.go_end a0 fuel pos hp] at HG'
    subst HG'
    go_wp2_with fail
    go_ret
    exact ⟨rfl, hbw⟩


end Go.Proofs.YtnapcfpecpgdbaaDoor.M
