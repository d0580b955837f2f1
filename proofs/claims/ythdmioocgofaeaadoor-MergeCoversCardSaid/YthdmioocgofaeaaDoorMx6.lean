/- The program's functions as plain functions, and that each call comes to what these tell; written by a program of this session, some contracts by hand. Conditions: none. -/
import Derived.Test.YthdmioocgofaeaaDoorMx0
import Derived.Test.YthdmioocgofaeaaDoorMx5
namespace Go.Proofs.YthdmioocgofaeaaDoor.M
open Go.RowKit Go.Proofs.YthdmioocgofaeaaDoorW.PrintWords Go.Proofs.YthdmioocgofaeaaDoorW.PrintLast Go.Proofs.YthdmioocgofaeaaDoorW.PrintMore
attribute [local go_sem] max2_int min2_int max_two min_two max_three min_three max_four min_four   -- for this text's walks alone
set_option linter.unusedVariables false
set_option linter.unusedSimpArgs false

/-! ### strings_SplitAfter: function 19 (given by hand) -/
/-- strings.SplitAfter at a separator of one byte. -/
def strings_SplitAfter.f (a0 : ByteArray) (a1 : ByteArray) : Option (List ByteArray) := if a1.size = 1 ∧ a0.size < 4294967281 then some (Lib.splitB a1 1 (Lib.countB a0 a1) a0) else none
theorem strings_SplitAfter.made (w : World) (e : TypeId) (l : List ByteArray) (hl : l.length ≤ maxLen) : Kd.R Kd.string e (w.alloc (.cells (l.map Value.string).toArray e)) w.heap.size (fun _ => True) (.slice (some ⟨w.heap.size, 0, none⟩) l.length l.length) l := by
 refine ⟨fun _ _ => trivial, l.map Value.string, ⟨by simp [Kd.string, Kd.scalar], .inr ⟨w.heap.size, l.length, _, rfl, Nat.le_refl _, heap_alloc_new w _, Nat.le_refl _, hl, by simp [Kd.string, Kd.scalar], by simp only [Kd.string, Kd.scalar, Nat.mul_one]; rw [List.take_of_length_le (by simp)]⟩⟩, by simp [Kd.string, Kd.scalar], fun j p hj => ?_⟩
 show ((l.map Value.string).drop (j * 1)).take 1 = [Value.string p]
 obtain ⟨h1, h2⟩ := List.getElem?_eq_some_iff.mp hj
 rw [Nat.mul_one, List.drop_eq_getElem_cons (by simpa using h1)]
 simp [h2]
set_option maxHeartbeats 4000000 in
set_option maxRecDepth 100000 in
theorem strings_SplitAfter.calls (a0 : ByteArray) (a1 : ByteArray) (r : List ByteArray) (w : World) (h : strings_SplitAfter.f a0 a1 = some r) :
 Calls Tryd.prog 19 #[.string a0, .string a1] w fun e w' => ∃ v0_ : Value, e = .returned (v0_) ∧ Kd.R Kd.string 9 w' w.heap.size (fun _ => True) v0_ r ∧ Below w.heap.size w w' := by
 unfold strings_SplitAfter.f at h
 by_cases h1 : a1.size = 1 ∧ a0.size < 4294967281
 ·
  rw [if_pos h1] at h
  obtain ⟨h1, hs⟩ := h1
  obtain ⟨c, rfl⟩ := Lib.one_byte a1 h1
  have h := Option.some.inj h
  have hlen := Lib.splitB_all ⟨#[c]⟩ (Nat.le_refl 1) 1 _ a0 rfl
  have hle := Lib.countB_le ⟨#[c]⟩ (Nat.le_refl 1) a0.size a0 (Nat.le_refl _)
  have hc := Tryd.strings_genSplit_one a0 c 1 (Nat.le_refl 1) w hs
  rw [h] at hlen hc
  rw [← hlen] at hc
  have hm : r.length ≤ maxLen := by
   show r.length ≤ 9223372036854775807
   omega
  clear h h1 hlen hle hs
  have HM := Aside0.mk hm
  clear hm
  go_enter Tryd.func19, Tryd.ntmps19
  go_wp2_with (go_at_call 22; refine hc.mono ?_; rintro e w' ⟨rfl, hw⟩; rw [hw])
  go_ret
  exact ⟨_, rfl, strings_SplitAfter.made w 9 r HM.out, below_alloc (Below.refl _ w) _⟩
 · rw [if_neg h1] at h
   cases h


/-! ### diff_Lines: function 14 -/
def diff_Lines.f (a0 : ByteArray) : Option (List ByteArray) := (strings_SplitAfter.f a0 (⟨#[10]⟩ : ByteArray)).bind fun t197 => (if 0 ≤ (wrap64 ((t197.length : Int) - 1)) then (if (wrap64 ((t197.length : Int) - 1)) < (t197.length : Int) then (if (rdOf ByteArray.empty t197 (wrap64 ((t197.length : Int) - 1))).toList = ([] : List UInt8) then (if (wrap64 ((t197.length : Int) - 1)) ≤ (t197.length : Int) then (some (t197.take ((wrap64 ((t197.length : Int) - 1)) : Int).toNat)) else (none)) else (some t197)) else (none)) else (none))
set_option maxHeartbeats 8000000 in
set_option maxRecDepth 100000 in
theorem diff_Lines.calls (a0 : ByteArray) (r : List ByteArray) (w : World) (h : diff_Lines.f a0 = some r) :
 Calls Tryd.prog 14 #[.string a0] w fun e w' => ∃ v0_ : Value, e = .returned (v0_) ∧ Kd.R Kd.string 9 w' w.heap.size (fun _ => True) v0_ r ∧ Below w.heap.size w w' := by
 have HB := Aside0.mk (Below.refl w.heap.size w)
 have H : ((strings_SplitAfter.f a0 (⟨#[10]⟩ : ByteArray)).bind fun t197 => (if 0 ≤ (wrap64 ((t197.length : Int) - 1)) then (if (wrap64 ((t197.length : Int) - 1)) < (t197.length : Int) then (if (rdOf ByteArray.empty t197 (wrap64 ((t197.length : Int) - 1))).toList = ([] : List UInt8) then (if (wrap64 ((t197.length : Int) - 1)) ≤ (t197.length : Int) then (some (t197.take ((wrap64 ((t197.length : Int) - 1)) : Int).toNat)) else (none)) else (some t197)) else (none)) else (none))) = some r := h
 clear h
 replace H := Option.bind_eq_some_iff.mp H
 obtain ⟨t197, A20, H⟩ := H
 replace H : (if 0 ≤ (wrap64 ((t197.length : Int) - 1)) then (if (wrap64 ((t197.length : Int) - 1)) < (t197.length : Int) then (if (rdOf ByteArray.empty t197 (wrap64 ((t197.length : Int) - 1))).toList = ([] : List UInt8) then (if (wrap64 ((t197.length : Int) - 1)) ≤ (t197.length : Int) then (some (t197.take ((wrap64 ((t197.length : Int) - 1)) : Int).toNat)) else (none)) else (some t197)) else (none)) else (none)) = some r := H
 have A2 := Aside0.mk A20
 clear A20
 obtain ⟨ji3, hji3⟩ : ∃ j_ : Int, (wrap64 ((t197.length : Int) - 1)) = j_ := ⟨_, rfl⟩
 replace H : (if 0 ≤ (ji3) then (if (ji3) < (t197.length : Int) then (if (rdOf ByteArray.empty t197 (ji3)).toList = ([] : List UInt8) then (if (ji3) ≤ (t197.length : Int) then (some (t197.take ((ji3) : Int).toNat)) else (none)) else (some t197)) else (none)) else (none)) = some r := by first | (rw [hji3] at H; exact H) | (simp only [hji3] at H ⊢; exact H)
 (try rw [hji3] at A2)
 have hji3w : (IntKind.i64.wrap ((t197.length : Int) - 1)) = ji3 := (i64_w _).trans hji3
 by_cases c4 : 0 ≤ (ji3)
 ·
  rw [if_pos c4] at H
  have c4b0 : decide (0 ≤ (ji3)) = true := decide_eq_true c4
  clear c4
  by_cases c5 : (ji3) < (t197.length : Int)
  ·
   rw [if_pos c5] at H
   have c5b0 : decide ((ji3) < (t197.length : Int)) = true := decide_eq_true c5
   clear c5
   by_cases c6 : (rdOf ByteArray.empty t197 (ji3)).toList = ([] : List UInt8)
   ·
    rw [if_pos c6] at H
    have c6b0 : ((rdOf ByteArray.empty t197 (ji3)).toList == ([] : List UInt8)) = true := beq_iff_eq.mpr c6
    have c6b1 : ((rdOf ByteArray.empty t197 (ji3)).toList != ([] : List UInt8)) = false := bne_eq_false_iff_eq.mpr c6
    clear c6
    by_cases c7 : (ji3) ≤ (t197.length : Int)
    · rw [if_pos c7] at H
      have c7b0 := eq_true c7
      have c7b1 : decide ((ji3) ≤ (t197.length : Int)) = true := decide_eq_true c7
      clear c7
      obtain ⟨y201, hy201⟩ : ∃ y_ : List ByteArray, y_ = (t197.take ((ji3) : Int).toNat) := ⟨_, rfl⟩
      replace H : (some y201) = some r := by first | (rw [hy201]; with_reducible exact H) | (have H2_ := (Option.bind_some _ _).symm.trans H; rw [hy201]; with_reducible exact H2_) | (have H2_ := (Option.bind_some _ _).symm.trans H; with_reducible exact H2_) | with_reducible exact H | (rw [hy201]; exact H) | exact H
      have Ny201 := Aside0.mk hy201
      clear hy201
      obtain rfl := Option.some.inj H
      go_enter Tryd.func14, Tryd.ntmps14
      go_wp2_with (first | ((with_reducible refine gate_callee (f := 19) rfl ?_); refine goesL_ (some 5) rfl rfl Tryd.func19 (by kernel_rfl) rfl #[.string a0, .string (⟨#[10]⟩ : ByteArray)] rfl (by (try simp only [List.map_toArray, List.map_cons, List.map_nil]); first | done | rfl | (simp only [List.length_drop, List.length_take]; rfl)) ?_; (with_reducible refine (strings_SplitAfter.calls a0 (⟨#[10]⟩ : ByteArray) t197 _ A2.out).mono ?_); rintro e w8 ⟨v198, rfl, ho0, hb⟩; refine ⟨_, rfl, ?_⟩; have n0_ := Aside0.mk (Kd.R_lower ho0 (below_size (by repeat (first | (with_reducible first | exact HB.out | apply below_alloc | apply pw_below_drewN | apply below_drew1) | exact HB.out)))); have n1_ := Aside0.mk (below_step (by repeat (first | (with_reducible first | exact HB.out | apply below_alloc | apply pw_below_drewN | apply below_drew1) | exact HB.out)) hb); clear HB; have HO199 := n0_; have HB := n1_; clear n0_ n1_; (try clear hb); (try clear hb2); (try clear hk); (try clear hi); (try clear ho0); obtain ⟨Ao9, co9, eo9⟩ := Kd.R_slice HO199.out; subst eo9; have p200 : 0 ≤ ((ji3) : Int) := of_decide_eq_true (by first | (with_reducible assumption) | assumption); have q200 : (ji3) < (t197.length : Int) := of_decide_eq_true (by first | (with_reducible assumption) | assumption); obtain ⟨ad200, e200, hx200_0⟩ := Kd.at_string (Kd.R_reads' HO199.out).2.2 (ji3) p200 q200; cases e200; replace p200 := eq_true p200; replace q200 := eq_true q200; have q10 : ((ji3) : Int) ≤ ((t197.length : Int) : Int) := of_decide_eq_true (by first | (with_reducible assumption) | assumption); obtain ⟨i010, hi010, _, hsz10, _⟩ := info_parts info9; have hcut10 := cut_to (P := Tryd.prog) 22 9 .i64 Tryd.underlying22 hi010 (some ad200) t197.length co9 (ji3) (of_decide_eq_true (by first | (with_reducible assumption) | assumption)) q10 (Kd.R_reads' HO199.out).2.1; have hr10 := Kd.R_take (m := ((ji3) : Int).toNat) HO199.out (by omega); have hy10 : y201.length = ((ji3) : Int).toNat := (by rw [Ny201.out, List.length_take]; omega); rw [← Ny201.out] at hr10; rw [← hy10] at hr10 hcut10; clear hy10 hi010 hsz10 HO199; have HO203 := Aside0.mk hr10; clear hr10; replace q10 := eq_true q10))
      go_ret
      exact ⟨_, by first | rfl | (simp [errW_none, errW_some] <;> rfl) | (simp only [← hji3]; first | rfl | (simp [errW_none, errW_some] <;> rfl)) | (simp [*, errW_none, errW_some] <;> rfl), by (with_reducible repeat (first | apply Kd.R_alloc | apply Kd.R_drewN | apply Kd.R_drew)); exact HO203.out, by repeat (first | (with_reducible first | exact HB.out | apply below_alloc | apply pw_below_drewN | apply below_drew1) | exact HB.out)⟩
    · rw [if_neg c7] at H
      exact absurd H (by simp)
   · rw [if_neg c6] at H
     have c6b0 : ((rdOf ByteArray.empty t197 (ji3)).toList == ([] : List UInt8)) = false := beq_eq_false_iff_ne.mpr c6
     have c6b1 : ((rdOf ByteArray.empty t197 (ji3)).toList != ([] : List UInt8)) = true := bne_iff_ne.mpr c6
     obtain rfl := Option.some.inj H
     go_enter Tryd.func14, Tryd.ntmps14
     go_wp2_with (first | ((with_reducible refine gate_callee (f := 19) rfl ?_); refine goesL_ (some 5) rfl rfl Tryd.func19 (by kernel_rfl) rfl #[.string a0, .string (⟨#[10]⟩ : ByteArray)] rfl (by (try simp only [List.map_toArray, List.map_cons, List.map_nil]); first | done | rfl | (simp only [List.length_drop, List.length_take]; rfl)) ?_; (with_reducible refine (strings_SplitAfter.calls a0 (⟨#[10]⟩ : ByteArray) t197 _ A2.out).mono ?_); rintro e w11 ⟨v198, rfl, ho0, hb⟩; refine ⟨_, rfl, ?_⟩; have n0_ := Aside0.mk (Kd.R_lower ho0 (below_size (by repeat (first | (with_reducible first | exact HB.out | apply below_alloc | apply pw_below_drewN | apply below_drew1) | exact HB.out)))); have n1_ := Aside0.mk (below_step (by repeat (first | (with_reducible first | exact HB.out | apply below_alloc | apply pw_below_drewN | apply below_drew1) | exact HB.out)) hb); clear HB; have HO199 := n0_; have HB := n1_; clear n0_ n1_; (try clear hb); (try clear hb2); (try clear hk); (try clear hi); (try clear ho0); obtain ⟨Ao12, co12, eo12⟩ := Kd.R_slice HO199.out; subst eo12; have p200 : 0 ≤ ((ji3) : Int) := of_decide_eq_true (by first | (with_reducible assumption) | assumption); have q200 : (ji3) < (t197.length : Int) := of_decide_eq_true (by first | (with_reducible assumption) | assumption); obtain ⟨ad200, e200, hx200_0⟩ := Kd.at_string (Kd.R_reads' HO199.out).2.2 (ji3) p200 q200; cases e200; replace p200 := eq_true p200; replace q200 := eq_true q200))
     go_ret
     exact ⟨_, by first | rfl | (simp [errW_none, errW_some] <;> rfl) | (simp only [← hji3]; first | rfl | (simp [errW_none, errW_some] <;> rfl)) | (simp [*, errW_none, errW_some] <;> rfl), by (with_reducible repeat (first | apply Kd.R_alloc | apply Kd.R_drewN | apply Kd.R_drew)); exact HO199.out, by repeat (first | (with_reducible first | exact HB.out | apply below_alloc | apply pw_below_drewN | apply below_drew1) | exact HB.out)⟩
  · rw [if_neg c5] at H
    exact absurd H (by simp)
 · rw [if_neg c4] at H
   exact absurd H (by simp)

/-! ### strings_Join: function 16 (given by hand) -/
/-- strings.Join. -/
def strings_Join.f (l0 : List ByteArray) (a1 : ByteArray) : Option ByteArray := if (Lib.join (l0.map (·.data.toList)) a1.data.toList).length ≤ 140737488355328 ∧ l0.length ≤ 140737488355328 then some ⟨(Lib.join (l0.map (·.data.toList)) a1.data.toList).toArray⟩ else none
theorem strings_Join.plain_addr {w : World} {ad : Addr} {v : Value} (h : w.cell? ad = some v) : ad = ⟨ad.block, ad.off, none⟩ := by
 obtain ⟨b, o, s⟩ := ad
 cases s with
 | none => rfl
 | some s =>
  exfalso
  revert h
  unfold World.cell?
  split <;> simp
set_option maxHeartbeats 4000000 in
set_option maxRecDepth 100000 in
theorem strings_Join.calls (A0 : Option Addr) (c0 : Nat) (l0 : List ByteArray) (a1 : ByteArray) (r : ByteArray) (w : World) (hr0 : Kd.C Kd.string w A0 l0.length l0) (hc0 : l0.length ≤ c0) (h : strings_Join.f l0 a1 = some r) :
 Calls Tryd.prog 16 #[.slice A0 l0.length c0, .string a1] w fun e w' => e = .returned (.string r) ∧ Below w.heap.size w w' := by
 unfold strings_Join.f at h
 by_cases h1 : (Lib.join (l0.map (·.data.toList)) a1.data.toList).length ≤ 140737488355328 ∧ l0.length ≤ 140737488355328
 ·
  rw [if_pos h1] at h
  obtain rfl := Option.some.inj h
  by_cases h0 : l0.length = 0
  · obtain rfl : l0 = [] := List.eq_nil_of_length_eq_zero h0
    exact (Tryd.strings_Join_none A0 c0 a1 w).mono fun e w' ⟨he, hw⟩ => ⟨he, hw ▸ Below.refl _ _⟩
  ·
   obtain ⟨ad, c, rfl, hcl, hK, hc⟩ := Kd.C_get hr0 ByteArray.empty 0 (Int.le_refl 0) (by omega)
   obtain rfl : c = [.string (l0.getD 0 ByteArray.empty)] := hK
   have hfirst : w.cell? ad = some (.string (l0.getD 0 ByteArray.empty)) := hc 0 _ rfl
   have ha := strings_Join.plain_addr hfirst
   have hlt := World.block_lt_of_cell? w _ hfirst
   rw [ha]
   refine Tryd.strings_Join ad.block ad.off c0 l0 a1 w (fun j x hj => ?_) hlt h1.2 hc0 h1.1
   obtain ⟨hj1, hj2⟩ := List.getElem?_eq_some_iff.mp hj
   obtain ⟨ad', c, he, _, hK, hc⟩ := Kd.C_get hr0 ByteArray.empty (j : Int) (Int.natCast_nonneg j) (by omega)
   obtain rfl := Option.some.inj he
   obtain rfl : c = [.string (l0.getD ((j : Int).toNat) ByteArray.empty)] := hK
   have hx : w.cell? (ad.add ((j : Int).toNat * 1 + 0)) = some (.string (l0.getD ((j : Int).toNat) ByteArray.empty)) := hc 0 _ rfl
   rw [Int.toNat_natCast, Nat.mul_one, Nat.add_zero, List.getD, hj, Option.getD_some] at hx
   rw [← hx]
   congr 1
   unfold Addr.add
   by_cases hj0 : j = 0
   · rw [if_pos hj0, hj0, Nat.add_zero]
     exact ha.symm
   · rw [if_neg hj0]
 · rw [if_neg h1] at h
   cases h


/-! ### merge_lines: function 17 -/
def merge_lines.f (a0_0 : Int) (l0_1 : List ByteArray) (l0_2 : List ByteArray) (l0_3 : List ByteArray) : Option (List ByteArray) := if a0_0 = 3 then (some l0_3) else (some l0_2)
set_option maxHeartbeats 8000000 in
set_option maxRecDepth 100000 in
theorem merge_lines.calls (a0_0 : Int) (A0_1 : Option Addr) (c0_1 : Nat) (l0_1 : List ByteArray) (P0_2_ : Nat → Prop) (A0_2 : Option Addr) (c0_2 : Nat) (l0_2 : List ByteArray) (P0_3_ : Nat → Prop) (A0_3 : Option Addr) (c0_3 : Nat) (l0_3 : List ByteArray) (r : List ByteArray) (w : World) (hr0_1 : Kd.C Kd.string w A0_1 l0_1.length l0_1) (hc0_1 : l0_1.length ≤ c0_1) (hs0_2 : Kd.V Kd.string 9 w w.heap.size (fun k_ => P0_2_ k_) (.slice A0_2 l0_2.length c0_2) l0_2) (hs0_3 : Kd.V Kd.string 9 w w.heap.size (fun k_ => P0_3_ k_) (.slice A0_3 l0_3.length c0_3) l0_3) (h : merge_lines.f a0_0 l0_1 l0_2 l0_3 = some r) :
 Calls Tryd.prog 17 #[.agg #[.int .i64 a0_0, .slice A0_1 l0_1.length c0_1, .slice A0_2 l0_2.length c0_2, .slice A0_3 l0_3.length c0_3]] w fun e w' => ∃ v0_ : Value, e = .returned (v0_) ∧ Kd.V Kd.string 9 w' w.heap.size (fun k_ => ((P0_2_ k_ ∨ P0_3_ k_) ∨ w.heap.size ≤ k_)) v0_ r ∧ Below w.heap.size w w' := by
 have hu30 := Tryd.underlying30
 have HR0_1 := Aside0.mk hr0_1
 have HC0_1 := Aside0.mk hc0_1
 clear hr0_1 hc0_1
 have HO0_2 := Aside0.mk (show Kd.V Kd.string 9 w w.heap.size (fun k_ => ((P0_2_ k_ ∨ P0_3_ k_) ∨ w.heap.size ≤ k_)) (.slice A0_2 l0_2.length c0_2) l0_2 from Kd.V_mono hs0_2 (fun k_ hk => .inl (.inl hk)))
 have HO0_3 := Aside0.mk (show Kd.V Kd.string 9 w w.heap.size (fun k_ => ((P0_2_ k_ ∨ P0_3_ k_) ∨ w.heap.size ≤ k_)) (.slice A0_3 l0_3.length c0_3) l0_3 from Kd.V_mono hs0_3 (fun k_ hk => .inl (.inr hk)))
 have HB := Aside0.mk (Below.refl w.heap.size w)
 have H : (if a0_0 = 3 then (some l0_3) else (some l0_2)) = some r := h
 clear h
 by_cases c2 : a0_0 = 3
 · rw [if_pos c2] at H
   have c2b0 : (a0_0 == 3) = true := beq_iff_eq.mpr c2
   have c2b1 : (a0_0 != 3) = false := bne_eq_false_iff_eq.mpr c2
   clear c2
   obtain rfl := Option.some.inj H
   go_enter Tryd.func17, Tryd.ntmps17
   go_wp2_with (first | ((with_reducible refine gate_dst (N := 1) rfl ?_); refine box_event ?hg (N := 1) ?hd (cs := #[.int .i64 a0_0, .slice A0_1 l0_1.length c0_1, .slice A0_2 l0_2.length c0_2, .slice A0_3 l0_3.length c0_3]) (t := 30) ?hr ?_; (case hd => rfl); (case hg => rfl); (case hr => first | (go_simp; done) | (go_simp; rfl) | (go_simp; simp only [show ∀ x_ : Int, IntKind.u8.wrap x_ = x_ % 256 from fun _ => rfl, Int.add_emod_emod, Int.emod_add_emod, Int.emod_emod]; done)); intro gb204 hg w3 hbox hb; have n0_ := Aside0.mk (Kd.V_below (Kd.V_elderB (by (with_reducible repeat (first | apply Kd.V_alloc | apply Kd.V_drewN | apply Kd.V_drew)); exact HO0_2.out) gb204 (Nat.le_of_eq hg.symm)) hb); have n1_ := Aside0.mk (Kd.V_below (Kd.V_elderB (by (with_reducible repeat (first | apply Kd.V_alloc | apply Kd.V_drewN | apply Kd.V_drew)); exact HO0_3.out) gb204 (Nat.le_of_eq hg.symm)) hb); have n2_ := Aside0.mk (below_step (by repeat (first | (with_reducible first | exact HB.out | apply below_alloc | apply pw_below_drewN | apply below_drew1) | exact HB.out)) hb); have n3_ := Aside0.mk (hbox); have n4_ := Aside0.mk ((by rw [hg]; exact (below_size (by repeat (first | (with_reducible first | exact HB.out | apply below_alloc | apply pw_below_drewN | apply below_drew1) | exact HB.out))) : w.heap.size ≤ gb204)); have n5_ := Aside0.mk ((by rw [hg]; exact (below_size (by repeat (first | (with_reducible first | exact HB.out | apply below_alloc | apply pw_below_drewN | apply below_drew1) | exact HB.out))) : w.heap.size ≤ gb204)); clear HO0_2; clear HO0_3; clear HB; have HO0_2 := n0_; have HO0_3 := n1_; have HB := n2_; have BK204 := n3_; have GW204 := n4_; have GE204 := n5_; clear n0_ n1_ n2_ n3_ n4_ n5_; clear hb hbox hg; have hcz4_0 : w3.cell? ⟨gb204, 0, none⟩ = some (.int .i64 a0_0) := (blk_cell BK204.out 0).trans rfl; have hcz4_1 : w3.cell? ⟨gb204, 1, none⟩ = some (.slice A0_1 l0_1.length c0_1) := (blk_cell BK204.out 1).trans rfl; have hcz4_2 : w3.cell? ⟨gb204, 2, none⟩ = some (.slice A0_2 l0_2.length c0_2) := (blk_cell BK204.out 2).trans rfl; have hcz4_3 : w3.cell? ⟨gb204, 3, none⟩ = some (.slice A0_3 l0_3.length c0_3) := (blk_cell BK204.out 3).trans rfl; have hfz4_0 := blk_frozen BK204.out 0; have hfz4_1 := blk_frozen BK204.out 1; have hfz4_2 := blk_frozen BK204.out 2; have hfz4_3 := blk_frozen BK204.out 3))
   go_ret
   exact ⟨_, by first | rfl | (simp [errW_none, errW_some] <;> rfl) | (simp [*, errW_none, errW_some] <;> rfl), by (with_reducible repeat (first | apply Kd.V_alloc | apply Kd.V_drewN | apply Kd.V_drew)); exact Kd.V_mono HO0_3.out (fun _ hk => hk.1), by repeat (first | (with_reducible first | exact HB.out | apply below_alloc | apply pw_below_drewN | apply below_drew1 | refine below_set ?_ GE204.out) | exact HB.out)⟩
 · rw [if_neg c2] at H
   have c2b0 : (a0_0 == 3) = false := beq_eq_false_iff_ne.mpr c2
   have c2b1 : (a0_0 != 3) = true := bne_iff_ne.mpr c2
   obtain rfl := Option.some.inj H
   go_enter Tryd.func17, Tryd.ntmps17
   go_wp2_with (first | ((with_reducible refine gate_dst (N := 1) rfl ?_); refine box_event ?hg (N := 1) ?hd (cs := #[.int .i64 a0_0, .slice A0_1 l0_1.length c0_1, .slice A0_2 l0_2.length c0_2, .slice A0_3 l0_3.length c0_3]) (t := 30) ?hr ?_; (case hd => rfl); (case hg => rfl); (case hr => first | (go_simp; done) | (go_simp; rfl) | (go_simp; simp only [show ∀ x_ : Int, IntKind.u8.wrap x_ = x_ % 256 from fun _ => rfl, Int.add_emod_emod, Int.emod_add_emod, Int.emod_emod]; done)); intro gb204 hg w5 hbox hb; have n0_ := Aside0.mk (Kd.V_below (Kd.V_elderB (by (with_reducible repeat (first | apply Kd.V_alloc | apply Kd.V_drewN | apply Kd.V_drew)); exact HO0_2.out) gb204 (Nat.le_of_eq hg.symm)) hb); have n1_ := Aside0.mk (Kd.V_below (Kd.V_elderB (by (with_reducible repeat (first | apply Kd.V_alloc | apply Kd.V_drewN | apply Kd.V_drew)); exact HO0_3.out) gb204 (Nat.le_of_eq hg.symm)) hb); have n2_ := Aside0.mk (below_step (by repeat (first | (with_reducible first | exact HB.out | apply below_alloc | apply pw_below_drewN | apply below_drew1) | exact HB.out)) hb); have n3_ := Aside0.mk (hbox); have n4_ := Aside0.mk ((by rw [hg]; exact (below_size (by repeat (first | (with_reducible first | exact HB.out | apply below_alloc | apply pw_below_drewN | apply below_drew1) | exact HB.out))) : w.heap.size ≤ gb204)); have n5_ := Aside0.mk ((by rw [hg]; exact (below_size (by repeat (first | (with_reducible first | exact HB.out | apply below_alloc | apply pw_below_drewN | apply below_drew1) | exact HB.out))) : w.heap.size ≤ gb204)); clear HO0_2; clear HO0_3; clear HB; have HO0_2 := n0_; have HO0_3 := n1_; have HB := n2_; have BK204 := n3_; have GW204 := n4_; have GE204 := n5_; clear n0_ n1_ n2_ n3_ n4_ n5_; clear hb hbox hg; have hcz6_0 : w5.cell? ⟨gb204, 0, none⟩ = some (.int .i64 a0_0) := (blk_cell BK204.out 0).trans rfl; have hcz6_1 : w5.cell? ⟨gb204, 1, none⟩ = some (.slice A0_1 l0_1.length c0_1) := (blk_cell BK204.out 1).trans rfl; have hcz6_2 : w5.cell? ⟨gb204, 2, none⟩ = some (.slice A0_2 l0_2.length c0_2) := (blk_cell BK204.out 2).trans rfl; have hcz6_3 : w5.cell? ⟨gb204, 3, none⟩ = some (.slice A0_3 l0_3.length c0_3) := (blk_cell BK204.out 3).trans rfl; have hfz6_0 := blk_frozen BK204.out 0; have hfz6_1 := blk_frozen BK204.out 1; have hfz6_2 := blk_frozen BK204.out 2; have hfz6_3 := blk_frozen BK204.out 3))
   go_ret
   exact ⟨_, by first | rfl | (simp [errW_none, errW_some] <;> rfl) | (simp [*, errW_none, errW_some] <;> rfl), by (with_reducible repeat (first | apply Kd.V_alloc | apply Kd.V_drewN | apply Kd.V_drew)); exact Kd.V_mono HO0_2.out (fun _ hk => hk.1), by repeat (first | (with_reducible first | exact HB.out | apply below_alloc | apply pw_below_drewN | apply below_drew1 | refine below_set ?_ GE204.out) | exact HB.out)⟩

/-! ### merge_Texts: function 11 (given by hand) -/
/-- What chunks come to, behind what there is: a text, or a clash. -/
def merge_Texts.go : List (S30) → ByteArray → Option (Option ByteArray)
 | [], s => some (some s)
 | x :: l, s => if x.f0 = 5 then some none else (merge_lines.f x.f0 x.f1 x.f2 x.f3).bind fun t => (strings_Join.f t (⟨#[]⟩ : ByteArray)).bind fun u => if s.size + u.size ≤ 140737488355328 then merge_Texts.go l (s ++ u) else none
def merge_Texts.out : Option ByteArray → ByteArray × Bool × Int
 | some s => (s, true, 0)
 | none => ((⟨#[]⟩ : ByteArray), false, 0)
def merge_Texts.f (k : Nat) (a0 : ByteArray) (a1 : ByteArray) (a2 : ByteArray) : Option (ByteArray × Bool × Int) := (diff_Lines.f a0).bind fun x => (diff_Lines.f a1).bind fun y => (diff_Lines.f a2).bind fun z => (merge_Chunks.f k x y z).bind fun r => if r.2 = 0 then (merge_Texts.go r.1 (⟨#[]⟩ : ByteArray)).bind fun o => some (merge_Texts.out o) else some ((⟨#[]⟩ : ByteArray), false, r.2)
theorem merge_Texts.mono : ∀ a0 a1 a2 k, LeO (merge_Texts.f k a0 a1 a2) (merge_Texts.f (k + 1) a0 a1 a2) := by
 intro a0 a1 a2 k
 unfold merge_Texts.f
 exact LeO.bind (LeO.refl _) (fun _ => LeO.bind (LeO.refl _) (fun _ => LeO.bind (LeO.refl _) (fun _ => LeO.bind (merge_Chunks.mono _ _ _ _) (fun _ => LeO.refl _))))
theorem merge_Texts.drop (l : List (S30)) (x : Int) (h0 : 0 ≤ x) (h1 : x < (l.length : Int)) : l.drop x.toNat = l.getD x.toNat z30 :: l.drop (x + 1).toNat := by
 have hl : x.toNat < l.length := by omega
 rw [List.drop_eq_getElem_cons hl, show (x + 1).toNat = x.toNat + 1 by omega]
 simp [List.getD, hl]
theorem merge_Texts.builder_below {T e : TypeId} {B b : Nat} {bs : List Value} {w w1 : World} (h : Lib.IsBuilderF T e B b bs w) (hb : Below w.heap.size w w1) : Lib.IsBuilderF T e B b bs w1 := by
 have go : ∀ p, Lib.BuilderAtF T e B b p bs w → Lib.BuilderAtF T e B b p bs w1 := by
  rintro p h
  have hlt := h.lt
  obtain ⟨hB, v, hv, hown, hne⟩ := h
  exact ⟨hB, v, (hb.block b hlt).trans hv, hown.kept (grown_of_below hb none) (by cases hv : v.ownBlock <;> simp), hne⟩
 exact h.elim (fun x => .inl (go _ x)) (fun x => .inr (go _ x))
theorem merge_Texts.strCells_append (a b : ByteArray) : Lib.strCells a ++ Lib.strCells b = Lib.strCells (a ++ b) := by
 simp [Lib.strCells]
theorem merge_Texts.add_add (a : Addr) (i j : Nat) : (a.add i).add j = a.add (i + j) := by
 unfold Addr.add
 by_cases hi : i = 0 <;> by_cases hj : j = 0 <;> simp [hi, hj, Nat.add_assoc]
theorem merge_Texts.cell0 {w : World} {ad : Addr} {cs : List Value} (h : ∀ j u, cs[j]? = some u → w.cell? (ad.add j) = some u) {a b c d : Value} (hc : cs = [a, b, c, d]) : w.cell? ad = some a ∧ w.cell? ⟨ad.block, ad.off + 1, none⟩ = some b ∧ w.cell? ⟨ad.block, ad.off + 2, none⟩ = some c ∧ w.cell? ⟨ad.block, ad.off + 3, none⟩ = some d := by
 subst hc
 exact ⟨h 0 _ rfl, h 1 _ rfl, h 2 _ rfl, h 3 _ rfl⟩
set_option maxHeartbeats 8000000 in
set_option maxRecDepth 100000 in
theorem merge_Texts.calls (k : Nat) (a0 : ByteArray) (a1 : ByteArray) (a2 : ByteArray) (r1 : ByteArray) (r2 : Bool) (r3 : Int) (w : World) (h : merge_Texts.f k a0 a1 a2 = some (r1, r2, r3)) :
 Calls Tryd.prog 11 #[.string a0, .string a1, .string a2] w fun e w' => e = .returned (.tuple #[.string r1, .bool r2, .int .i64 r3]) ∧ Below w.heap.size w w' := by
 have hu := Tryd.underlying30
 obtain ⟨x, hx, h⟩ := Option.bind_eq_some_iff.mp h
 obtain ⟨y, hy, h⟩ := Option.bind_eq_some_iff.mp h
 obtain ⟨z, hz, h⟩ := Option.bind_eq_some_iff.mp h
 obtain ⟨⟨L, e⟩, hr, h⟩ := Option.bind_eq_some_iff.mp h
 have X := Aside0.mk hx
 have Y := Aside0.mk hy
 have Z := Aside0.mk hz
 have R := Aside0.mk hr
 clear hx hy hz hr
 dsimp only at h
 by_cases c0 : e = 0
 ·
  rw [if_pos c0] at h
  subst c0
  obtain ⟨o, ho, h⟩ := Option.bind_eq_some_iff.mp h
  have h := Option.some.inj h
  have O := Aside0.mk ho
  have OUT := Aside0.mk h
  clear ho h
  go_enter Tryd.func11, Tryd.ntmps11
  go_wp2_with fail
  refine (diff_Lines.calls a0 x _ X.out).mono ?_
  rintro e w1 ⟨v1, rfl, hR1, hb1⟩
  obtain ⟨A1, q1, e1⟩ := Kd.R_slice hR1
  subst e1
  have HR1 := Aside0.mk hR1
  have HB1 := Aside0.mk hb1
  clear hR1 hb1
  go_wp2_with fail
  refine (diff_Lines.calls a1 y _ Y.out).mono ?_
  rintro e w2 ⟨v2, rfl, hR2, hb2⟩
  obtain ⟨A2, q2, e2⟩ := Kd.R_slice hR2
  subst e2
  have HR2 := Aside0.mk hR2
  have HB2 := Aside0.mk hb2
  clear hR2 hb2
  go_wp2_with fail
  refine (diff_Lines.calls a2 z _ Z.out).mono ?_
  rintro e w3 ⟨v3, rfl, hR3, hb3⟩
  obtain ⟨A3, q3, e3⟩ := Kd.R_slice hR3
  subst e3
  have HR3 := Aside0.mk hR3
  have HB3 := Aside0.mk hb3
  clear hR3 hb3
  go_wp2_with fail
  have R1' := Kd.R_reads' (Kd.R_below (Kd.R_below HR1.out HB2.out) HB3.out)
  have R2' := Kd.R_reads' (Kd.R_below HR2.out HB3.out)
  have R3' := Kd.R_reads' HR3.out
  refine (merge_Chunks.calls k A1 q1 x A2 q2 y A3 q3 z L 0 w3 R1'.2.2 R1'.2.1 R2'.2.2 R2'.2.1 R3'.2.2 R3'.2.1 R.out).mono ?_
  clear R1' R2' R3'
  rintro e w4 ⟨v4, rfl, hR4, hb4⟩
  replace hR4 := Kd.S_R hR4
  obtain ⟨A4, q4, e4⟩ := Kd.R_slice hR4
  subst e4
  have HR4 := Aside0.mk hR4
  have HB4 := Aside0.mk hb4
  clear hR4 hb4
  go_wp2_with fail
  have hB : Below w.heap.size w w4 := ((HB1.out.trans (HB2.out.mono HB1.out.size)).trans (HB3.out.mono (Nat.le_trans HB1.out.size HB2.out.size))).trans (HB4.out.mono (Nat.le_trans HB1.out.size (Nat.le_trans HB2.out.size HB3.out.size)))
  have hI0 : Aside0 (Lib.IsBuilderF 48 5 w4.heap.size w4.heap.size (Lib.strCells (⟨#[]⟩ : ByteArray)) (w4.alloc (.cells #[.pointer none, .slice none 0 0] 48))) := ⟨Lib.IsBuilderF.of (Lib.fresh_isBuilder 48 5 w4)⟩
  have hB0 : Aside0 (Below w.heap.size w (w4.alloc (.cells #[.pointer none, .slice none 0 0] 48))) := ⟨hB.alloc (hB.size) _⟩
  have hW : Aside0 (w.heap.size ≤ w4.heap.size) := ⟨hB.size⟩
  have hF0 : Aside0 (Kd.F k30 (w4.alloc (.cells #[.pointer none, .slice none 0 0] 48)) (fun k_ => k_ < w4.heap.size) A4 L.length L) := ⟨Kd.F_alloc (Kd.F_mono (Kd.F_bound (Kd.R_F HR4.out)) (fun _ hk => hk.2)) _⟩
  have HL := Aside0.mk (show (L.length : Int) ≤ 9223372036854775807 by have := (Kd.R_reads' HR4.out).2.2.2.1; omega)
  clear hB HR1 HR2 HR3 HB1 HB2 HB3 HB4 HR4
  go_loopw [29] (fun v29 wr => ∃ (t : ByteArray) (i : Int), v29 = .int .i64 i ∧ 0 ≤ i ∧ i ≤ (L.length : Int) ∧ Aside0 (merge_Texts.go (L.drop i.toNat) t = some o) ∧ Aside0 (Lib.IsBuilderF 48 5 w4.heap.size w4.heap.size (Lib.strCells t) wr) ∧ Aside0 (Below w.heap.size w wr) ∧ Aside0 (Kd.F k30 wr (fun k_ => k_ < w4.heap.size) A4 L.length L)) (fun v29 _ => L.length - (intOf v29).toNat)
  case atStart => exact ⟨_, 0, rfl, by omega, by omega, O, hI0, hB0, hF0⟩
  case round =>
   obtain ⟨t, i, rfl, h0, h1, HA, HI, HB, HF⟩ := hrel
   clear O hI0 hB0 hF0
   have hsz : w4.heap.size ≤ wr.heap.size := by
    rcases HI.out with h | h
    · have := h.lt; omega
    · have := h.lt; omega
   have HZ := Aside0.mk hsz
   clear hsz
   by_cases hlt : i < (L.length : Int)
   ·
    have hA := HA.out
    rw [merge_Texts.drop L i h0 hlt] at hA
    obtain ⟨ad, cs, e, _, hFK, hcc, _⟩ := Kd.F_get HF.out z30 i h0 hlt
    subst e
    obtain ⟨ch, hch⟩ : ∃ q, L.getD i.toNat z30 = q := ⟨_, rfl⟩
    rw [hch] at hA hFK
    obtain ⟨B1, b1, B2, b2, B3, b3, hcs, hl1, hf1, hl2, hf2, hl3, hf3⟩ := k30_openF hFK
    have hcc' : ∀ j u, cs[j]? = some u → wr.cell? ((ad.add (i.toNat * 4)).add j) = some u := fun j u hj => by
     rw [merge_Texts.add_add]
     exact hcc j u hj
    obtain ⟨hx0, hx1, hx2, hx3⟩ := merge_Texts.cell0 hcc' hcs
    have F1 := Aside0.mk hf1
    have F2 := Aside0.mk hf2
    have F3 := Aside0.mk hf3
    have L1 := Aside0.mk hl1
    have L2 := Aside0.mk hl2
    have L3 := Aside0.mk hl3
    have hl := HL.out
    clear hFK hcc hcs hcc' hf1 hf2 hf3 hl1 hl2 hl3 hch HA
    simp only [merge_Texts.go] at hA
    by_cases c5 : ch.f0 = 5
    · rw [if_pos c5] at hA
      obtain rfl := Option.some.inj hA
      have b5 : (ch.f0 == 5) = true := beq_iff_eq.mpr c5
      clear hA c5
      go_wp2_with fail
      go_ret3
      have ho := OUT.out
      unfold merge_Texts.out at ho
      rw [Prod.mk.injEq, Prod.mk.injEq] at ho
      obtain ⟨z1, z2, z3⟩ := ho
      rw [← z1, ← z2, ← z3]
      exact ⟨rfl, below_alloc HB.out _⟩
    ·
     rw [if_neg c5] at hA
     obtain ⟨t1, ht1, hA⟩ := Option.bind_eq_some_iff.mp hA
     obtain ⟨u, hu1, hA⟩ := Option.bind_eq_some_iff.mp hA
     have b5 : (ch.f0 == 5) = false := beq_eq_false_iff_ne.mpr c5
     by_cases hs : t.size + u.size ≤ 140737488355328
     ·
      rw [if_pos hs] at hA
      have HA2 := Aside0.mk hA
      have T1 := Aside0.mk ht1
      have U := Aside0.mk hu1
      have HS := Aside0.mk hs
      clear hA ht1 hu1 hs c5
      go_wp2_with fail
      refine (merge_lines.calls ch.f0 B1 b1 ch.f1 (fun k_ => k_ < w4.heap.size) B2 b2 ch.f2 (fun k_ => k_ < w4.heap.size) B3 b3 ch.f3 t1 (wr.alloc (.cells #[.int .i64 ch.f0, .slice B1 ch.f1.length b1, .slice B2 ch.f2.length b2, .slice B3 ch.f3.length b3] 30)) (Kd.F_now (Kd.F_alloc F1.out _)) L1.out (Kd.V_mk L2.out (Kd.F_alloc F2.out _)) (Kd.V_mk L3.out (Kd.F_alloc F3.out _)) T1.out).mono ?_
      rintro e w9 ⟨v9, rfl, hV9, hb9⟩
      obtain ⟨A9, q9, e9⟩ := Kd.V_slice hV9
      subst e9
      have V9 := Aside0.mk hV9
      have HI9 := Aside0.mk (merge_Texts.builder_below (HI.out.alloc (.cells #[.int .i64 ch.f0, .slice B1 ch.f1.length b1, .slice B2 ch.f2.length b2, .slice B3 ch.f3.length b3] 30)) hb9)
      have HB9 := Aside0.mk ((below_alloc HB.out (.cells #[.int .i64 ch.f0, .slice B1 ch.f1.length b1, .slice B2 ch.f2.length b2, .slice B3 ch.f3.length b3] 30)).trans (hb9.mono (below_size (below_alloc HB.out _))))
      have HF9 := Aside0.mk (Kd.F_below (Kd.F_alloc HF.out (.cells #[.int .i64 ch.f0, .slice B1 ch.f1.length b1, .slice B2 ch.f2.length b2, .slice B3 ch.f3.length b3] 30)) hb9)
      have HZ9 := Aside0.mk (Nat.le_trans HZ.out (Nat.le_trans (below_size (below_alloc (Below.refl wr.heap.size wr) (.cells #[.int .i64 ch.f0, .slice B1 ch.f1.length b1, .slice B2 ch.f2.length b2, .slice B3 ch.f3.length b3] 30))) hb9.size))
      clear hV9 hb9
      go_wp2_with fail
      refine (strings_Join.calls A9 q9 t1 (⟨#[]⟩ : ByteArray) u w9 (Kd.V_reads' V9.out).2.2 (Kd.V_reads' V9.out).2.1 U.out).mono ?_
      rintro e w10 ⟨rfl, hb10⟩
      have HI10 := Aside0.mk (merge_Texts.builder_below HI9.out hb10)
      have HB10 := Aside0.mk (HB9.out.trans (hb10.mono HB9.out.size))
      have HF10 := Aside0.mk (Kd.F_below HF9.out hb10)
      have HZ10 := Aside0.mk (Nat.le_trans HZ9.out hb10.size)
      clear hb10
      go_wp2_with fail
      have C_ := Tryd.builder_WriteString w4.heap.size w4.heap.size _ u w10 HI10.out (by rw [Lib.strCells_length]; exact HS.out) HZ10.out
      rw [merge_Texts.strCells_append] at C_
      refine C_.mono ?_
      clear C_
      rintro e w11 ⟨rfl, hI11, hb11, -⟩
      have HI11 : Aside0 (Lib.IsBuilderF 48 5 w4.heap.size w4.heap.size (Lib.strCells (t ++ u)) w11) := ⟨.inr hI11⟩
      have HB11 := Aside0.mk (HB10.out.trans (hb11.mono hW.out))
      have HF11 := Aside0.mk (Kd.F_step HF10.out (fun k_ hk_ _ => hb11.block k_ hk_))
      clear hI11 hb11
      go_wp2_with fail
      go_roundw
      case rel => exact ⟨_, i + 1, rfl, by omega, by omega, HA2, HI11, HB11, HF11⟩
      case measure =>
       simp [intOf]
       omega
     · rw [if_neg hs] at hA
       cases hA
   ·
    have hx : i = (L.length : Int) := by omega
    have hA := HA.out
    rw [hx, Int.toNat_natCast, List.drop_length] at hA
    have hA := Option.some.inj hA
    subst hA
    clear hx HA
    go_wp2_with (go_at_call 18; refine (Tryd.builder_String w4.heap.size w4.heap.size t.data.toList _ HI.out HZ.out).mono ?_; rintro e w2 ⟨rfl, -, hb2, -⟩; have HBS := Aside0.mk hb2; clear hb2)
    go_ret3
    have ho := OUT.out
    unfold merge_Texts.out at ho
    rw [Prod.mk.injEq, Prod.mk.injEq] at ho
    obtain ⟨z1, z2, z3⟩ := ho
    rw [← z1, ← z2, ← z3]
    exact ⟨by simp, HB.out.trans (HBS.out.mono hW.out)⟩
 ·
  rw [if_neg c0] at h
  have h := Option.some.inj h
  rw [Prod.mk.injEq, Prod.mk.injEq] at h
  obtain ⟨z1, z2, z3⟩ := h
  subst z1
  subst z2
  subst z3
  have b0 : (e == 0) = false := beq_eq_false_iff_ne.mpr c0
  have b1 : (e != 0) = true := bne_iff_ne.mpr c0
  clear c0
  go_enter Tryd.func11, Tryd.ntmps11
  go_wp2_with fail
  refine (diff_Lines.calls a0 x _ X.out).mono ?_
  rintro e w1 ⟨v1, rfl, hR1, hb1⟩
  obtain ⟨A1, q1, e1⟩ := Kd.R_slice hR1
  subst e1
  have HR1 := Aside0.mk hR1
  have HB1 := Aside0.mk hb1
  clear hR1 hb1
  go_wp2_with fail
  refine (diff_Lines.calls a1 y _ Y.out).mono ?_
  rintro e w2 ⟨v2, rfl, hR2, hb2⟩
  obtain ⟨A2, q2, e2⟩ := Kd.R_slice hR2
  subst e2
  have HR2 := Aside0.mk hR2
  have HB2 := Aside0.mk hb2
  clear hR2 hb2
  go_wp2_with fail
  refine (diff_Lines.calls a2 z _ Z.out).mono ?_
  rintro e w3 ⟨v3, rfl, hR3, hb3⟩
  obtain ⟨A3, q3, e3⟩ := Kd.R_slice hR3
  subst e3
  have HR3 := Aside0.mk hR3
  have HB3 := Aside0.mk hb3
  clear hR3 hb3
  go_wp2_with fail
  have R1' := Kd.R_reads' (Kd.R_below (Kd.R_below HR1.out HB2.out) HB3.out)
  have R2' := Kd.R_reads' (Kd.R_below HR2.out HB3.out)
  have R3' := Kd.R_reads' HR3.out
  refine (merge_Chunks.calls k A1 q1 x A2 q2 y A3 q3 z L e w3 R1'.2.2 R1'.2.1 R2'.2.2 R2'.2.1 R3'.2.2 R3'.2.1 R.out).mono ?_
  clear R1' R2' R3'
  rintro e w4 ⟨v4, rfl, hR4, hb4⟩
  replace hR4 := Kd.S_R hR4
  obtain ⟨A4, q4, e4⟩ := Kd.R_slice hR4
  subst e4
  have HR4 := Aside0.mk hR4
  have HB4 := Aside0.mk hb4
  clear hR4 hb4
  go_wp2_with fail
  go_ret3
  exact ⟨rfl, ((HB1.out.trans (HB2.out.mono HB1.out.size)).trans (HB3.out.mono (Nat.le_trans HB1.out.size HB2.out.size))).trans (HB4.out.mono (Nat.le_trans HB1.out.size (Nat.le_trans HB2.out.size HB3.out.size)))⟩


end Go.Proofs.YthdmioocgofaeaaDoor.M
