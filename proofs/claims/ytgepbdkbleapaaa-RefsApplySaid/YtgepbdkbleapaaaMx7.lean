/- The program's functions as plain functions, and that each call comes to what these tell; written by a program of this session, some contracts by hand. Conditions: none. -/
import Derived.Test.YtgepbdkbleapaaaMx0
import Derived.Test.YtgepbdkbleapaaaMx3
import Derived.Test.YtgepbdkbleapaaaMx5
import Derived.Test.YtgepbdkbleapaaaMx6
namespace Go.Proofs.Ytgepbdkbleapaaa.M
open Go.RowKit Go.Proofs.YtgepbdkbleapaaaW.PrintWords Go.Proofs.YtgepbdkbleapaaaW.PrintLast Go.Proofs.YtgepbdkbleapaaaW.PrintMore
attribute [local go_sem] max2_int min2_int max_two min_two max_three min_three max_four min_four   -- for this text's walks alone
set_option linter.unusedVariables false
set_option linter.unusedSimpArgs false

/-! ### refs_Apply: function 8 (given by hand) -/
/-- Where an update of such a name stands; below 0: nowhere. -/
def refs_Apply.find (n : ByteArray) : List (S34) → Nat → Int
 | [], _ => -1
 | x :: l, i => if x.f0.toList = n.toList then (i : Int) else refs_Apply.find n l (i + 1)
/-- The updates, one behind the other. -/
def refs_Apply.go (k : Nat) (h : ByteArray) (l : List (S50)) : List (S34) → List (S34) → ByteArray → List (S50) → Option (ByteArray × List (S50) × Int)
 | _, [], oh, ol => if (ol.length : Int) > 256 then some (h, l, 3) else some (oh, ol, 0)
 | done, u :: us, oh, ol => if 0 ≤ refs_Apply.find u.f0 done 0 then some (h, l, 1) else (refs_why.f k h l u.f0 u.f1 u.f2 u.f3).bind fun e => if e = 0 then (refs_set.f k oh ol u.f0 u.f2).bind fun r => refs_Apply.go k h l (done ++ [u]) us r.1 r.2 else some (h, l, e)
def refs_Apply.f (k : Nat) (a0_0 : ByteArray) (l0_1 : List (S50)) (l1 : List (S34)) : Option (ByteArray × List (S50) × Int) := if (l1.length : Int) > 256 then some (a0_0, l0_1, 3) else (refs_Check.f k a0_0 l0_1).bind fun e => if e = 0 then (if l0_1.length ≤ 100000 then refs_Apply.go k a0_0 l0_1 [] l1 a0_0 l0_1 else none) else some (a0_0, l0_1, e)
theorem refs_Apply.mono : ∀ a0 a1 a2 k, LeO (refs_Apply.f k a0 a1 a2) (refs_Apply.f (k + 1) a0 a1 a2) := by
 intro a0 a1 a2 k
 have go : ∀ (us done : List (S34)) (oh : ByteArray) (ol : List (S50)), LeO (refs_Apply.go k a0 a1 done us oh ol) (refs_Apply.go (k + 1) a0 a1 done us oh ol) := by
  intro us
  induction us with
  | nil => intro done oh ol; exact LeO.refl _
  | cons u us ih =>
   intro done oh ol
   simp only [refs_Apply.go]
   exact LeO.ite (LeO.refl _) (LeO.bind (refs_why.mono _ _ _ _ _ _ _) (fun _ => LeO.ite (LeO.bind (refs_set.mono _ _ _ _ _) (fun _ => ih _ _ _)) (LeO.refl _)))
 unfold refs_Apply.f
 exact LeO.ite (LeO.refl _) (LeO.bind (refs_Check.mono _ _ _) (fun _ => LeO.ite (LeO.ite (go _ _ _ _) (LeO.refl _)) (LeO.refl _)))
set_option maxHeartbeats 4000000 in
set_option maxRecDepth 100000 in
/-- Is it that name? -/
theorem refs_Apply.is (x0 x1 x2 : ByteArray) (x3 : Bool) (g : Nat) (n : ByteArray) (w : World) (hz : w.cell? ⟨g, 0, none⟩ = some (.string n)) :
 Calls Try.prog 25 #[.agg #[.string x0, .string x1, .string x2, .bool x3], .pointer (some ⟨g, 0, none⟩)] w fun e w' => e = .returned (.bool (x0.toList == n.toList)) ∧ Below w.heap.size w w' := by
 have HB := Aside0.mk (Below.refl w.heap.size w)
 have HZ := Aside0.mk hz
 clear hz
 go_enter Try.func25, Try.ntmps25
 go_wp2_with (first
  | ((with_reducible refine gate_dst (N := 2) rfl ?_); refine box_event ?hg (N := 2) ?hd (cs := #[.string x0, .string x1, .string x2, .bool x3]) (t := 34) ?hr ?_; (case hd => rfl); (case hg => rfl); (case hr => first | (go_simp; done) | (go_simp; rfl)); intro g2 hg w4 hbox hb; have HB4 := Aside0.mk (below_step HB.out hb); have hz4 : w4.cell? ⟨g2, 0, none⟩ = some (.string x0) := (blk_cell hbox 0).trans rfl; have hz5 : w4.cell? ⟨g, 0, none⟩ = some (.string n) := (hb.cell (World.block_lt_of_cell? w _ HZ.out)).trans HZ.out; clear hb hbox hg))
 go_ret
 exact ⟨rfl, HB4.out⟩
theorem refs_Apply.drop (l : List (S34)) (x : Int) (h0 : 0 ≤ x) (h1 : x < (l.length : Int)) : l.drop x.toNat = rd_T34 l x :: l.drop (x + 1).toNat := by
 have hl : x.toNat < l.length := by omega
 rw [List.drop_eq_getElem_cons hl, show (x + 1).toNat = x.toNat + 1 by omega]
 unfold rd_T34
 simp [List.getD, hl]
set_option maxHeartbeats 4000000 in
set_option maxRecDepth 100000 in
/-- slices.IndexFunc with it. -/
theorem refs_Apply.index (A : Option Addr) (c : Nat) (l : List (S34)) (g : Nat) (n : ByteArray) (w : World) (hr : Kd.C k34 w A l.length l) (hz : w.cell? ⟨g, 0, none⟩ = some (.string n)) (hl : l.length ≤ 100000) :
 Calls Try.prog 40 #[.slice A l.length c, .func (.func 25) #[] #[.pointer (some ⟨g, 0, none⟩)]] w fun e w' => e = .returned (.int .i64 (refs_Apply.find n l 0)) ∧ Below w.heap.size w w' := by
 have HR := Aside0.mk hr
 have HZ := Aside0.mk hz
 have LM := Aside0.mk hl
 have HB := Aside0.mk (Below.refl w.heap.size w)
 obtain ⟨r, hr_⟩ : ∃ r_, r_ = refs_Apply.find n l 0 := ⟨_, rfl⟩
 rw [← hr_]
 have HF := Aside0.mk (show refs_Apply.find n (l.drop (0 : Int).toNat) (0 : Int).toNat = r from hr_.symm)
 clear hr hz hl hr_
 go_enter Try.func40, Try.ntmps40
 go_wp2_with fail
 go_loopw [8] (fun v8 wr => ∃ x : Int, v8 = .int .i64 x ∧ 0 ≤ x ∧ x ≤ (l.length : Int) ∧ Aside0 (refs_Apply.find n (l.drop x.toNat) x.toNat = r) ∧ Aside0 (Below w.heap.size w wr)) (fun v8 _ => l.length - (intOf v8).toNat)
 case atStart => exact ⟨0, rfl, by omega, by omega, HF, HB⟩
 case round =>
  obtain ⟨x, rfl, h0, h1, HA, HB⟩ := hrel
  clear HF
  have hlm := LM.out
  by_cases hlt : x < (l.length : Int)
  ·
   have hA := HA.out
   rw [refs_Apply.drop l x h0 hlt] at hA
   simp only [refs_Apply.find] at hA
   obtain ⟨ad, e, hx0, hx1, hx2, hx3⟩ := at_T34 HR.out x h0 hlt
   subst e
   obtain ⟨p, hp⟩ : ∃ q, rd_T34 l x = q := ⟨_, rfl⟩
   rw [hp] at hA hx0 hx1 hx2 hx3
   obtain ⟨P0, P1, P2, P3⟩ := p
   dsimp only at hA hx0 hx1 hx2 hx3
   replace hx0 := (HB.out.cell (World.block_lt_of_cell? w _ hx0)).trans hx0
   replace hx1 := (HB.out.cell (World.block_lt_of_cell? w _ hx1)).trans hx1
   replace hx2 := (HB.out.cell (World.block_lt_of_cell? w _ hx2)).trans hx2
   replace hx3 := (HB.out.cell (World.block_lt_of_cell? w _ hx3)).trans hx3
   have HZ1 := Aside0.mk ((HB.out.cell (World.block_lt_of_cell? w _ HZ.out)).trans HZ.out)
   have e1 : IntKind.i64.wrap (x + 1) = x + 1 := IntWalk.i64_in _ (by omega)
   by_cases hc : P0.toList = n.toList
   · rw [if_pos hc] at hA
     have hb : (P0.toList == n.toList) = true := beq_iff_eq.mpr hc
     have hx : (x.toNat : Int) = x := by omega
     rw [hx] at hA
     have HA3 := Aside0.mk hA
     clear hc hp hx hA
     go_wp2_with (go_at_call 25; refine (refs_Apply.is P0 P1 P2 P3 g n _ HZ1.out).mono ?_; rintro e w5 ⟨rfl, hb5⟩; have HB5 := Aside0.mk (below_step HB.out hb5); clear hb5)
     go_ret
     rw [← HA3.out]
     exact ⟨rfl, HB5.out⟩
   · rw [if_neg hc] at hA
     have hb : (P0.toList == n.toList) = false := beq_eq_false_iff_ne.mpr hc
     have HA2 := Aside0.mk (show refs_Apply.find n (l.drop (x + 1).toNat) (x + 1).toNat = r by rw [show (x + 1).toNat = x.toNat + 1 by omega] at hA ⊢; exact hA)
     clear hc hp hA
     go_wp2_with (go_at_call 25; refine (refs_Apply.is P0 P1 P2 P3 g n _ HZ1.out).mono ?_; rintro e w5 ⟨rfl, hb5⟩; have HB5 := Aside0.mk (below_step HB.out hb5); clear hb5)
     go_roundw
     case rel => exact ⟨x + 1, rfl, by omega, by omega, HA2, HB5⟩
     case measure =>
      simp [intOf]
      omega
  · have hx : x = (l.length : Int) := by omega
    have hA := HA.out
    rw [hx, Int.toNat_natCast, List.drop_length] at hA
    simp only [refs_Apply.find] at hA
    subst hA
    clear hx HA
    go_wp2
    go_ret
    exact ⟨rfl, HB.out⟩
theorem refs_Apply.take (l : List (S34)) (x : Int) (h0 : 0 ≤ x) (h1 : x < (l.length : Int)) : l.take (x + 1).toNat = l.take x.toNat ++ [rd_T34 l x] := by
 have hl : x.toNat < l.length := by omega
 rw [show (x + 1).toNat = x.toNat + 1 by omega, List.take_add_one, List.getElem?_eq_getElem hl]
 unfold rd_T34
 simp [List.getD, hl]
theorem refs_Apply.info : (Try.prog.info? 34).map (fun i => (i.zero, i.size, i.bytes)) = some (some (.agg #[.string ⟨#[]⟩, .string ⟨#[]⟩, .string ⟨#[]⟩, .bool false]), 4, 56) := by kernel_rfl
set_option maxHeartbeats 4000000 in
set_option maxRecDepth 100000 in
/-- slices.ContainsFunc with it. -/
theorem refs_Apply.contains (A : Option Addr) (c : Nat) (l : List (S34)) (g : Nat) (n : ByteArray) (b : Bool) (w : World) (hr : Kd.C k34 w A l.length l) (hz : w.cell? ⟨g, 0, none⟩ = some (.string n)) (hl : l.length ≤ 100000) (hb : decide (0 ≤ refs_Apply.find n l 0) = b) :
 Calls Try.prog 24 #[.slice A l.length c, .func (.func 25) #[] #[.pointer (some ⟨g, 0, none⟩)]] w fun e w' => e = .returned (.bool b) ∧ Below w.heap.size w w' := by
 have HR := Aside0.mk hr
 have HZ := Aside0.mk hz
 have LM := Aside0.mk hl
 obtain ⟨r, hr_⟩ : ∃ r_, r_ = refs_Apply.find n l 0 := ⟨_, rfl⟩
 rw [← hr_] at hb
 have HE := Aside0.mk hr_
 clear hr hz hl hr_
 go_enter Try.func24, Try.ntmps24
 go_wp2_with (go_at_call 40; refine (refs_Apply.index A c l g n _ HR.out HZ.out LM.out).mono ?_; rw [← HE.out]; rintro e w5 ⟨rfl, hb5⟩; have HB5 := Aside0.mk hb5; clear hb5)
 go_ret
 exact ⟨rfl, HB5.out⟩
set_option maxHeartbeats 4000000 in
set_option maxRecDepth 100000 in
theorem refs_Apply.calls (k : Nat) (a0_0 : ByteArray) (P0_1_ : Nat → Prop) (A0_1 : Option Addr) (c0_1 : Nat) (l0_1 : List (S50)) (A1 : Option Addr) (c1 : Nat) (l1 : List (S34)) (r1 : ByteArray) (r2 : List (S50)) (r3 : Int) (w : World) (hs0_1 : Kd.V k50 50 w w.heap.size (fun k_ => P0_1_ k_) (.slice A0_1 l0_1.length c0_1) l0_1) (hr1 : Kd.C k34 w A1 l1.length l1) (hc1 : l1.length ≤ c1) {fv : Value} (h : refs_Apply.f k a0_0 l0_1 l1 = some (r1, r2, r3)) :
 Calls Try.prog 8 #[.agg #[.string a0_0, .slice A0_1 l0_1.length c0_1], .slice A1 l1.length c1, fv] w fun e w' => ∃ v1_ : Value, e = .returned (.tuple #[.agg #[.string r1, v1_], .int .i64 r3]) ∧ Kd.V k50 50 w' w.heap.size (fun k_ => (P0_1_ k_ ∨ w.heap.size ≤ k_)) v1_ r2 ∧ Below w.heap.size w w' := by
 have HS := Aside0.mk hs0_1
 obtain ⟨_, hc0, hr0⟩ := Kd.V_reads' hs0_1
 have HR := Aside0.mk hr0
 have HC := Aside0.mk hc0
 have HU := Aside0.mk hr1
 have HCU := Aside0.mk hc1
 have HB := Aside0.mk (Below.refl w.heap.size w)
 clear hs0_1 hr0 hc0 hr1 hc1
 unfold refs_Apply.f at h
 by_cases d1 : (l1.length : Int) > 256
 ·
  rw [if_pos d1] at h
  have h := Option.some.inj h
  simp only [Prod.mk.injEq] at h
  obtain ⟨rfl, rfl, rfl⟩ := h
  have d1b0 : decide (256 < (l1.length : Int)) = true := decide_eq_true d1
  have d1b1 : decide (256 < l1.length) = true := decide_eq_true (by omega)
  clear d1
  go_enter Try.func8, Try.ntmps8
  go_wp2_with (first
   | ((with_reducible refine gate_dst (N := 3) rfl ?_); refine box_event ?hg (N := 3) ?hd (cs := #[.string a0_0, .slice A0_1 l0_1.length c0_1]) (t := 24) ?hr ?_; (case hd => rfl); (case hg => rfl); (case hr => first | (go_simp; done) | (go_simp; rfl)); intro g3 hg w4 hbox hb; have HB4 := Aside0.mk (below_step HB.out hb); have BK3 := Aside0.mk hbox; have GE3 := Aside0.mk ((by rw [hg]; exact Nat.le_refl _) : w.heap.size ≤ g3); clear hb hbox hg)
   | ((with_reducible refine gate_dst (N := 6) rfl ?_); refine box_event ?hg (N := 6) ?hd (cs := #[.string (⟨#[]⟩ : ByteArray), .slice none 0 0]) (t := 24) ?hr ?_; (case hd => rfl); (case hg => rfl); (case hr => first | (go_simp; done) | (go_simp; rfl)); intro g6 hg w5 hbox hb; have HB5 := Aside0.mk (below_step HB4.out hb); have NB36 := Aside0.mk ((by rw [hg]; exact Nat.ne_of_lt (blk_lt BK3.out)) : g3 ≠ g6); have BK3_5 := Aside0.mk (blk_below BK3.out hb); have BK6_5 := Aside0.mk hbox; have GE6 := Aside0.mk ((by rw [hg]; exact HB4.out.size) : w.heap.size ≤ g6); have hz50 : w5.cell? ⟨g3, 0, none⟩ = some (.string a0_0) := (blk_cell BK3_5.out 0).trans rfl; have hz51 : w5.cell? ⟨g3, 1, none⟩ = some (.slice A0_1 l0_1.length c0_1) := (blk_cell BK3_5.out 1).trans rfl; have hz52 : w5.cell? ⟨g6, 0, none⟩ = some (.string (⟨#[]⟩ : ByteArray)) := (blk_cell BK6_5.out 0).trans rfl; have hz53 : w5.cell? ⟨g6, 1, none⟩ = some (.slice none 0 0) := (blk_cell BK6_5.out 1).trans rfl; have hf52 := blk_frozen BK6_5.out 0; have hf53 := blk_frozen BK6_5.out 1; have ne36 := NB36.out; have ne63 := NB36.out.symm; clear hb hbox hg))
  have Q1 : (w5.setCell ⟨g6, 0, none⟩ (.string a0_0)).heap[g6]? = some (.cells #[.string a0_0, .slice none 0 0] 24 (0, 0)) := blk_put BK6_5.out 0 _ rfl
  refine bodyPost_ret (results_ct rfl _ _ g6 24 #[.string a0_0, .slice A0_1 l0_1.length c0_1] (0, 0) _ rfl (blk_put Q1 1 _ rfl) Try.underlying24 rfl (by kernel_rfl)) rfl ?_
  have HBf := below_set (j := 1) (v := .slice A0_1 l0_1.length c0_1) (below_set (j := 0) (v := .string a0_0) HB5.out GE6.out) GE6.out
  exact ⟨_, rfl, Kd.V_mono (Kd.V_below HS.out HBf) (fun _ hk => .inl hk), HBf⟩
 ·
  rw [if_neg d1] at h
  have d1b0 : decide (256 < (l1.length : Int)) = false := decide_eq_false d1
  have d1b1 : decide (256 < l1.length) = false := decide_eq_false (by omega)
  have LU := Aside0.mk (show l1.length ≤ 256 by omega)
  clear d1
  obtain ⟨ec, hec, h⟩ := Option.bind_eq_some_iff.mp h
  have PC := Aside0.mk hec
  clear hec
  by_cases d2 : ec = 0
  ·
   rw [if_pos d2] at h
   subst d2
   by_cases d3 : l0_1.length ≤ 100000
   ·
    rw [if_pos d3] at h
    have LM := Aside0.mk d3
    have HG := Aside0.mk h
    clear d3 h
    go_enter Try.func8, Try.ntmps8
    go_wp2_with (first
     | ((with_reducible refine gate_dst (N := 3) rfl ?_); refine box_event ?hg (N := 3) ?hd (cs := #[.string a0_0, .slice A0_1 l0_1.length c0_1]) (t := 24) ?hr ?_; (case hd => rfl); (case hg => rfl); (case hr => first | (go_simp; done) | (go_simp; rfl)); intro g3 hg w4 hbox hb; have HB4 := Aside0.mk (below_step HB.out hb); have BK3 := Aside0.mk hbox; have GE3 := Aside0.mk ((by rw [hg]; exact Nat.le_refl _) : w.heap.size ≤ g3); clear hb hbox hg)
     | ((with_reducible refine gate_dst (N := 6) rfl ?_); refine box_event ?hg (N := 6) ?hd (cs := #[.string (⟨#[]⟩ : ByteArray), .slice none 0 0]) (t := 24) ?hr ?_; (case hd => rfl); (case hg => rfl); (case hr => first | (go_simp; done) | (go_simp; rfl)); intro g6 hg w5 hbox hb; have HB5 := Aside0.mk (below_step HB4.out hb); have NB36 := Aside0.mk ((by rw [hg]; exact Nat.ne_of_lt (blk_lt BK3.out)) : g3 ≠ g6); have BK3_5 := Aside0.mk (blk_below BK3.out hb); have BK6_5 := Aside0.mk hbox; have GE6 := Aside0.mk ((by rw [hg]; exact HB4.out.size) : w.heap.size ≤ g6); have hz50 : w5.cell? ⟨g3, 0, none⟩ = some (.string a0_0) := (blk_cell BK3_5.out 0).trans rfl; have hz51 : w5.cell? ⟨g3, 1, none⟩ = some (.slice A0_1 l0_1.length c0_1) := (blk_cell BK3_5.out 1).trans rfl; have hz52 : w5.cell? ⟨g6, 0, none⟩ = some (.string (⟨#[]⟩ : ByteArray)) := (blk_cell BK6_5.out 0).trans rfl; have hz53 : w5.cell? ⟨g6, 1, none⟩ = some (.slice none 0 0) := (blk_cell BK6_5.out 1).trans rfl; have hf52 := blk_frozen BK6_5.out 0; have hf53 := blk_frozen BK6_5.out 1; have ne36 := NB36.out; have ne63 := NB36.out.symm; clear hb hbox hg)
     | (go_at_call 18; refine (refs_Check.calls k a0_0 A0_1 c0_1 l0_1 0 _ (Kd.C_below HR.out HB5.out) HC.out PC.out).mono ?_; rintro e w6 ⟨rfl, hb⟩; have HB6 := Aside0.mk (below_step HB5.out hb); have BK3_6 := Aside0.mk (blk_below BK3_5.out hb); have BK6_6 := Aside0.mk (blk_below BK6_5.out hb); have hz6a0 : w6.cell? ⟨g3, 0, none⟩ = some (.string a0_0) := (blk_cell BK3_6.out 0).trans rfl; have hz6a1 : w6.cell? ⟨g3, 1, none⟩ = some (.slice A0_1 l0_1.length c0_1) := (blk_cell BK3_6.out 1).trans rfl; have hf6a0 := blk_frozen BK3_6.out 0; have hf6a1 := blk_frozen BK3_6.out 1; have hz6b0 : w6.cell? ⟨g6, 0, none⟩ = some (.string (⟨#[]⟩ : ByteArray)) := (blk_cell BK6_6.out 0).trans rfl; have hz6b1 : w6.cell? ⟨g6, 1, none⟩ = some (.slice none 0 0) := (blk_cell BK6_6.out 1).trans rfl; have hf6b0 := blk_frozen BK6_6.out 0; have hf6b1 := blk_frozen BK6_6.out 1; clear hb)
     | ((with_reducible refine gate_dst (N := 9) rfl ?_); refine box_event ?hg (N := 9) ?hd (cs := #[.string (⟨#[]⟩ : ByteArray), .slice none 0 0]) (t := 24) ?hr ?_; (case hd => rfl); (case hg => rfl); (case hr => first | (go_simp; done) | (go_simp; rfl)); intro g9 hg w7 hbox hb; have HB7 := Aside0.mk (below_step HB6.out hb); have NB39 := Aside0.mk ((by rw [hg]; exact Nat.ne_of_lt (blk_lt BK3_6.out)) : g3 ≠ g9); have NB69 := Aside0.mk ((by rw [hg]; exact Nat.ne_of_lt (blk_lt BK6_6.out)) : g6 ≠ g9); have BK3_7 := Aside0.mk (blk_below BK3_6.out hb); have BK6_7 := Aside0.mk (blk_below BK6_6.out hb); have BK9_7 := Aside0.mk hbox; have GE9 := Aside0.mk ((by rw [hg]; exact HB6.out.size) : w.heap.size ≤ g9); have hz7a0 : w7.cell? ⟨g3, 0, none⟩ = some (.string a0_0) := (blk_cell BK3_7.out 0).trans rfl; have hz7a1 : w7.cell? ⟨g3, 1, none⟩ = some (.slice A0_1 l0_1.length c0_1) := (blk_cell BK3_7.out 1).trans rfl; have hf7a0 := blk_frozen BK3_7.out 0; have hf7a1 := blk_frozen BK3_7.out 1; have hz7c0 : w7.cell? ⟨g9, 0, none⟩ = some (.string (⟨#[]⟩ : ByteArray)) := (blk_cell BK9_7.out 0).trans rfl; have hz7c1 : w7.cell? ⟨g9, 1, none⟩ = some (.slice none 0 0) := (blk_cell BK9_7.out 1).trans rfl; have hf7c0 := blk_frozen BK9_7.out 0; have hf7c1 := blk_frozen BK9_7.out 1; have ne39 := NB39.out; have ne93 := NB39.out.symm; have ne69 := NB69.out; have ne96 := NB69.out.symm; clear hb hbox hg)
     | (go_at_call 23; refine (refs_set.clone A0_1 c0_1 l0_1 _ (Kd.C_below HR.out (below_set (below_set HB7.out GE9.out) GE9.out)) HC.out LM.out).mono ?_; rintro e w9 ⟨v9, rfl, hR9, hb⟩; obtain ⟨A9, c9, rfl⟩ := Kd.R_slice hR9; have HB8 := Aside0.mk (below_set (j := 1) (v := .slice A0_1 l0_1.length c0_1) (below_set (j := 0) (v := .string a0_0) HB7.out GE9.out) GE9.out); have HR9 := Aside0.mk (Kd.R_lower hR9 HB8.out.size); have HB9 := Aside0.mk (below_step HB8.out hb); have BK3_9 := Aside0.mk (blk_below (blk_far (blk_far BK3_7.out ne39 _) ne39 _) hb); have BK6_9 := Aside0.mk (blk_below (blk_far (blk_far BK6_7.out ne69 _) ne69 _) hb); have BK9_9 := Aside0.mk (blk_below (blk_put (cs' := #[.string a0_0, .slice A0_1 l0_1.length c0_1]) (blk_put (cs' := #[.string a0_0, .slice none 0 0]) BK9_7.out 0 _ rfl) 1 _ rfl) hb); have hz9c0 : w9.cell? ⟨g9, 0, none⟩ = some (.string a0_0) := (blk_cell BK9_9.out 0).trans rfl; have hz9c1 : w9.cell? ⟨g9, 1, none⟩ = some (.slice A0_1 l0_1.length c0_1) := (blk_cell BK9_9.out 1).trans rfl; have hf9c0 := blk_frozen BK9_9.out 0; have hf9c1 := blk_frozen BK9_9.out 1; clear hb hR9))
    go_loopw [30] (fun v30 wr => ∃ (x : Int) (oh : ByteArray) (ol : List (S50)) (A9 : Option Addr) (c9 : Nat), v30 = .int .i64 x ∧ 0 ≤ x ∧ x ≤ (l1.length : Int) ∧ Aside0 (refs_Apply.go k a0_0 l0_1 (l1.take x.toNat) (l1.drop x.toNat) oh ol = some (r1, r2, r3)) ∧ Aside0 (Kd.R k50 50 wr w.heap.size (fun _ => True) (.slice A9 ol.length c9) ol) ∧ Aside0 (wr.heap[g3]? = some (.cells #[.string a0_0, .slice A0_1 l0_1.length c0_1] 24 (0, 0))) ∧ Aside0 (wr.heap[g6]? = some (.cells #[.string (⟨#[]⟩ : ByteArray), .slice none 0 0] 24 (0, 0))) ∧ Aside0 (wr.heap[g9]? = some (.cells #[.string oh, .slice A9 ol.length c9] 24 (0, 0))) ∧ Aside0 (Below w.heap.size w wr)) (fun v30 _ => l1.length - (intOf v30).toNat)
    case atStart => exact ⟨0, a0_0, l0_1, A9, c9, rfl, by omega, by omega, HG, ⟨Kd.R_set HR9.out BK9_9.out (by decide) 1 _⟩, ⟨blk_far BK3_9.out ne39 _⟩, ⟨blk_far BK6_9.out ne69 _⟩, ⟨blk_put BK9_9.out 1 _ rfl⟩, ⟨below_set HB9.out GE9.out⟩⟩
    case round =>
     obtain ⟨x, oh, ol, A9, c9, rfl, h0, h1, HA, HRr, BK3r, BK6r, BK9r, HBr⟩ := hrel
     clear HG HR9 BK9_9 BK3_9 BK6_9 HB9 HB8 hz9c0 hz9c1 hf9c0 hf9c1 hz7a0 hz7a1 hz7c0 hz7c1 hf7a0 hf7a1 hf7c0 hf7c1 hz6b0 hz6b1 hf6b0 hf6b1 hz6a0 hz6a1 hf6a0 hf6a1 hz50 hz51 hz52 hz53 hf52 hf53
     have hlm := LU.out
     by_cases hlt : x < (l1.length : Int)
     ·
      have hA := HA.out
      obtain ⟨ad, e, hx0, hx1, hx2, hx3⟩ := at_T34 HU.out x h0 hlt
      subst e
      have hnext : l1.take (x + 1).toNat = l1.take x.toNat ++ [rd_T34 l1 x] := refs_Apply.take l1 x h0 hlt
      rw [refs_Apply.drop l1 x h0 hlt] at hA
      obtain ⟨p, hp⟩ : ∃ q, rd_T34 l1 x = q := ⟨_, rfl⟩
      rw [hp] at hA hx0 hx1 hx2 hx3 hnext
      obtain ⟨P0, P1, P2, P3⟩ := p
      obtain ⟨i0, hi0, _, hsz0, _⟩ := info_parts refs_Apply.info
      obtain ⟨dn, hdn⟩ : ∃ d_, d_ = l1.take x.toNat := ⟨_, rfl⟩
      have hdl : dn.length = x.toNat := by rw [hdn, List.length_take]; omega
      have hcut : ∀ W : World, (Instr.slice 25 (.slice (some ad) l1.length c1) none (some (.int .i64 x)) none).run Try.prog W = .ok (.slice (some ad) dn.length c1) W := by
       rw [hdl]
       exact cut_to 25 34 .i64 Try.underlying25 hi0 (some ad) l1.length c1 x h0 h1 HCU.out
      have HD := Aside0.mk (show Kd.C k34 w (some ad) dn.length dn by rw [hdn]; exact Kd.C_take HU.out (by omega))
      have LD := Aside0.mk (show dn.length ≤ 100000 by omega)
      rw [← hdn] at hA hnext
      simp only [refs_Apply.go] at hA
      dsimp only at hx0 hx1 hx2 hx3
      replace hx0 := (HBr.out.cell (World.block_lt_of_cell? w _ hx0)).trans hx0
      replace hx1 := (HBr.out.cell (World.block_lt_of_cell? w _ hx1)).trans hx1
      replace hx2 := (HBr.out.cell (World.block_lt_of_cell? w _ hx2)).trans hx2
      replace hx3 := (HBr.out.cell (World.block_lt_of_cell? w _ hx3)).trans hx3
      have HN := Aside0.mk hnext
      have e1 : IntKind.i64.wrap (x + 1) = x + 1 := IntWalk.i64_in _ (by omega)
      clear hp hdn hdl hi0 hnext HA
      by_cases d4 : 0 ≤ refs_Apply.find P0 dn 0
      · rw [if_pos d4] at hA
        have hA := Option.some.inj hA
        simp only [Prod.mk.injEq] at hA
        obtain ⟨rfl, rfl, rfl⟩ := hA
        have FD := Aside0.mk (show decide (0 ≤ refs_Apply.find P0 dn 0) = true from decide_eq_true d4)
        clear d4
        go_wp2_with (first
         | ((with_reducible refine gate_dst (N := 11) rfl ?_); refine box_event ?hg (N := 11) ?hd (cs := #[.string (⟨#[]⟩ : ByteArray), .string (⟨#[]⟩ : ByteArray), .string (⟨#[]⟩ : ByteArray), .bool false]) (t := 34) ?hr ?_; (case hd => rfl); (case hg => rfl); (case hr => first | (go_simp; done) | (go_simp; rfl)); intro g11 hg w10 hbox hb; have HB10 := Aside0.mk (below_step HBr.out hb); have HR10 := Aside0.mk (Kd.R_below HRr.out hb); have NB3_11 := Aside0.mk ((by rw [hg]; exact Nat.ne_of_lt (blk_lt BK3r.out)) : g3 ≠ g11); have NB6_11 := Aside0.mk ((by rw [hg]; exact Nat.ne_of_lt (blk_lt BK6r.out)) : g6 ≠ g11); have NB9_11 := Aside0.mk ((by rw [hg]; exact Nat.ne_of_lt (blk_lt BK9r.out)) : g9 ≠ g11); have BK3_10 := Aside0.mk (blk_below BK3r.out hb); have BK6_10 := Aside0.mk (blk_below BK6r.out hb); have BK9_10 := Aside0.mk (blk_below BK9r.out hb); have BK11_10 := Aside0.mk hbox; have GE11 := Aside0.mk ((by rw [hg]; exact HBr.out.size) : w.heap.size ≤ g11); have hza0 : w10.cell? ⟨g11, 0, none⟩ = some (.string (⟨#[]⟩ : ByteArray)) := (blk_cell BK11_10.out 0).trans rfl; have hfa0 := blk_frozen BK11_10.out 0; have hza1 : w10.cell? ⟨g11, 1, none⟩ = some (.string (⟨#[]⟩ : ByteArray)) := (blk_cell BK11_10.out 1).trans rfl; have hfa1 := blk_frozen BK11_10.out 1; have hza2 : w10.cell? ⟨g11, 2, none⟩ = some (.string (⟨#[]⟩ : ByteArray)) := (blk_cell BK11_10.out 2).trans rfl; have hfa2 := blk_frozen BK11_10.out 2; have hza3 : w10.cell? ⟨g11, 3, none⟩ = some (.bool false) := (blk_cell BK11_10.out 3).trans rfl; have hfa3 := blk_frozen BK11_10.out 3; have ne3b := NB3_11.out; have neb3 := NB3_11.out.symm; have ne6b := NB6_11.out; have neb6 := NB6_11.out.symm; have ne9b := NB9_11.out; have neb9 := NB9_11.out.symm; clear hb hbox hg)
         | (go_at_call 24; refine (refs_Apply.contains (some ad) c1 dn g11 P0 true _ (Kd.C_below HD.out (below_set (below_set (below_set (below_set HB10.out GE11.out) GE11.out) GE11.out) GE11.out)) ((blk_cell (blk_put (cs' := #[.string P0, .string P1, .string P2, .bool P3]) (blk_put (cs' := #[.string P0, .string P1, .string P2, .bool false]) (blk_put (cs' := #[.string P0, .string P1, .string (⟨#[]⟩ : ByteArray), .bool false]) (blk_put (cs' := #[.string P0, .string (⟨#[]⟩ : ByteArray), .string (⟨#[]⟩ : ByteArray), .bool false]) BK11_10.out 0 _ rfl) 1 _ rfl) 2 _ rfl) 3 _ rfl) 0).trans rfl) LD.out FD.out).mono ?_; rintro e w12 ⟨rfl, hb⟩; have HB12 := Aside0.mk (below_step (below_set (j := 3) (v := .bool P3) (below_set (j := 2) (v := .string P2) (below_set (j := 1) (v := .string P1) (below_set (j := 0) (v := .string P0) HB10.out GE11.out) GE11.out) GE11.out) GE11.out) hb); have HR12 := Aside0.mk (Kd.R_below (Kd.R_set (Kd.R_set (Kd.R_set (Kd.R_set HR10.out BK11_10.out (by decide) 0 _) (blk_put (cs' := #[.string P0, .string (⟨#[]⟩ : ByteArray), .string (⟨#[]⟩ : ByteArray), .bool false]) BK11_10.out 0 _ rfl) (by decide) 1 _) (blk_put (cs' := #[.string P0, .string P1, .string (⟨#[]⟩ : ByteArray), .bool false]) (blk_put (cs' := #[.string P0, .string (⟨#[]⟩ : ByteArray), .string (⟨#[]⟩ : ByteArray), .bool false]) BK11_10.out 0 _ rfl) 1 _ rfl) (by decide) 2 _) (blk_put (cs' := #[.string P0, .string P1, .string P2, .bool false]) (blk_put (cs' := #[.string P0, .string P1, .string (⟨#[]⟩ : ByteArray), .bool false]) (blk_put (cs' := #[.string P0, .string (⟨#[]⟩ : ByteArray), .string (⟨#[]⟩ : ByteArray), .bool false]) BK11_10.out 0 _ rfl) 1 _ rfl) 2 _ rfl) (by decide) 3 _) hb); have BK3_12 := Aside0.mk (blk_below (blk_far (blk_far (blk_far (blk_far BK3_10.out ne3b _) ne3b _) ne3b _) ne3b _) hb); have BK6_12 := Aside0.mk (blk_below (blk_far (blk_far (blk_far (blk_far BK6_10.out ne6b _) ne6b _) ne6b _) ne6b _) hb); have BK9_12 := Aside0.mk (blk_below (blk_far (blk_far (blk_far (blk_far BK9_10.out ne9b _) ne9b _) ne9b _) ne9b _) hb); have BK11_12 := Aside0.mk (blk_below (blk_put (cs' := #[.string P0, .string P1, .string P2, .bool P3]) (blk_put (cs' := #[.string P0, .string P1, .string P2, .bool false]) (blk_put (cs' := #[.string P0, .string P1, .string (⟨#[]⟩ : ByteArray), .bool false]) (blk_put (cs' := #[.string P0, .string (⟨#[]⟩ : ByteArray), .string (⟨#[]⟩ : ByteArray), .bool false]) BK11_10.out 0 _ rfl) 1 _ rfl) 2 _ rfl) 3 _ rfl) hb); have hz12a0 : w12.cell? ⟨g3, 0, none⟩ = some (.string a0_0) := (blk_cell BK3_12.out 0).trans rfl; have hz12a1 : w12.cell? ⟨g3, 1, none⟩ = some (.slice A0_1 l0_1.length c0_1) := (blk_cell BK3_12.out 1).trans rfl; have hf12a0 := blk_frozen BK3_12.out 0; have hf12a1 := blk_frozen BK3_12.out 1; have hz12b0 : w12.cell? ⟨g6, 0, none⟩ = some (.string (⟨#[]⟩ : ByteArray)) := (blk_cell BK6_12.out 0).trans rfl; have hz12b1 : w12.cell? ⟨g6, 1, none⟩ = some (.slice none 0 0) := (blk_cell BK6_12.out 1).trans rfl; have hf12b0 := blk_frozen BK6_12.out 0; have hf12b1 := blk_frozen BK6_12.out 1; have hz12c0 : w12.cell? ⟨g9, 0, none⟩ = some (.string oh) := (blk_cell BK9_12.out 0).trans rfl; have hz12c1 : w12.cell? ⟨g9, 1, none⟩ = some (.slice A9 ol.length c9) := (blk_cell BK9_12.out 1).trans rfl; have hf12c0 := blk_frozen BK9_12.out 0; have hf12c1 := blk_frozen BK9_12.out 1; have hz12d0 : w12.cell? ⟨g11, 0, none⟩ = some (.string P0) := (blk_cell BK11_12.out 0).trans rfl; have hz12d1 : w12.cell? ⟨g11, 1, none⟩ = some (.string P1) := (blk_cell BK11_12.out 1).trans rfl; have hz12d2 : w12.cell? ⟨g11, 2, none⟩ = some (.string P2) := (blk_cell BK11_12.out 2).trans rfl; have hz12d3 : w12.cell? ⟨g11, 3, none⟩ = some (.bool P3) := (blk_cell BK11_12.out 3).trans rfl; clear hb))
        have Q1 : (w12.setCell ⟨g6, 0, none⟩ (.string a0_0)).heap[g6]? = some (.cells #[.string a0_0, .slice none 0 0] 24 (0, 0)) := blk_put BK6_12.out 0 _ rfl
        refine bodyPost_ret (results_ct rfl _ _ g6 24 #[.string a0_0, .slice A0_1 l0_1.length c0_1] (0, 0) _ rfl (blk_put Q1 1 _ rfl) Try.underlying24 rfl (by kernel_rfl)) rfl ?_
        have HBf := below_set (j := 1) (v := .slice A0_1 l0_1.length c0_1) (below_set (j := 0) (v := .string a0_0) HB12.out GE6.out) GE6.out
        exact ⟨_, rfl, Kd.V_mono (Kd.V_below HS.out HBf) (fun _ hk => .inl hk), HBf⟩
      ·
       rw [if_neg d4] at hA
       have FD := Aside0.mk (show decide (0 ≤ refs_Apply.find P0 dn 0) = false from decide_eq_false d4)
       clear d4
       obtain ⟨ec, hec, hA⟩ := Option.bind_eq_some_iff.mp hA
       have WW := Aside0.mk hec
       clear hec
       by_cases d5 : ec = 0
       ·
        rw [if_pos d5] at hA
        subst d5
        obtain ⟨⟨rh, rl⟩, hset, hA⟩ := Option.bind_eq_some_iff.mp hA
        have SS := Aside0.mk hset
        have HA2 := Aside0.mk hA
        clear hset hA
        go_wp2_with (first
         | ((with_reducible refine gate_dst (N := 11) rfl ?_); refine box_event ?hg (N := 11) ?hd (cs := #[.string (⟨#[]⟩ : ByteArray), .string (⟨#[]⟩ : ByteArray), .string (⟨#[]⟩ : ByteArray), .bool false]) (t := 34) ?hr ?_; (case hd => rfl); (case hg => rfl); (case hr => first | (go_simp; done) | (go_simp; rfl)); intro g11 hg w10 hbox hb; have HB10 := Aside0.mk (below_step HBr.out hb); have HR10 := Aside0.mk (Kd.R_below HRr.out hb); have NB3_11 := Aside0.mk ((by rw [hg]; exact Nat.ne_of_lt (blk_lt BK3r.out)) : g3 ≠ g11); have NB6_11 := Aside0.mk ((by rw [hg]; exact Nat.ne_of_lt (blk_lt BK6r.out)) : g6 ≠ g11); have NB9_11 := Aside0.mk ((by rw [hg]; exact Nat.ne_of_lt (blk_lt BK9r.out)) : g9 ≠ g11); have BK3_10 := Aside0.mk (blk_below BK3r.out hb); have BK6_10 := Aside0.mk (blk_below BK6r.out hb); have BK9_10 := Aside0.mk (blk_below BK9r.out hb); have BK11_10 := Aside0.mk hbox; have GE11 := Aside0.mk ((by rw [hg]; exact HBr.out.size) : w.heap.size ≤ g11); have hza0 : w10.cell? ⟨g11, 0, none⟩ = some (.string (⟨#[]⟩ : ByteArray)) := (blk_cell BK11_10.out 0).trans rfl; have hfa0 := blk_frozen BK11_10.out 0; have hza1 : w10.cell? ⟨g11, 1, none⟩ = some (.string (⟨#[]⟩ : ByteArray)) := (blk_cell BK11_10.out 1).trans rfl; have hfa1 := blk_frozen BK11_10.out 1; have hza2 : w10.cell? ⟨g11, 2, none⟩ = some (.string (⟨#[]⟩ : ByteArray)) := (blk_cell BK11_10.out 2).trans rfl; have hfa2 := blk_frozen BK11_10.out 2; have hza3 : w10.cell? ⟨g11, 3, none⟩ = some (.bool false) := (blk_cell BK11_10.out 3).trans rfl; have hfa3 := blk_frozen BK11_10.out 3; have ne3b := NB3_11.out; have neb3 := NB3_11.out.symm; have ne6b := NB6_11.out; have neb6 := NB6_11.out.symm; have ne9b := NB9_11.out; have neb9 := NB9_11.out.symm; clear hb hbox hg)
         | (go_at_call 24; refine (refs_Apply.contains (some ad) c1 dn g11 P0 false _ (Kd.C_below HD.out (below_set (below_set (below_set (below_set HB10.out GE11.out) GE11.out) GE11.out) GE11.out)) ((blk_cell (blk_put (cs' := #[.string P0, .string P1, .string P2, .bool P3]) (blk_put (cs' := #[.string P0, .string P1, .string P2, .bool false]) (blk_put (cs' := #[.string P0, .string P1, .string (⟨#[]⟩ : ByteArray), .bool false]) (blk_put (cs' := #[.string P0, .string (⟨#[]⟩ : ByteArray), .string (⟨#[]⟩ : ByteArray), .bool false]) BK11_10.out 0 _ rfl) 1 _ rfl) 2 _ rfl) 3 _ rfl) 0).trans rfl) LD.out FD.out).mono ?_; rintro e w12 ⟨rfl, hb⟩; have HB12 := Aside0.mk (below_step (below_set (j := 3) (v := .bool P3) (below_set (j := 2) (v := .string P2) (below_set (j := 1) (v := .string P1) (below_set (j := 0) (v := .string P0) HB10.out GE11.out) GE11.out) GE11.out) GE11.out) hb); have HR12 := Aside0.mk (Kd.R_below (Kd.R_set (Kd.R_set (Kd.R_set (Kd.R_set HR10.out BK11_10.out (by decide) 0 _) (blk_put (cs' := #[.string P0, .string (⟨#[]⟩ : ByteArray), .string (⟨#[]⟩ : ByteArray), .bool false]) BK11_10.out 0 _ rfl) (by decide) 1 _) (blk_put (cs' := #[.string P0, .string P1, .string (⟨#[]⟩ : ByteArray), .bool false]) (blk_put (cs' := #[.string P0, .string (⟨#[]⟩ : ByteArray), .string (⟨#[]⟩ : ByteArray), .bool false]) BK11_10.out 0 _ rfl) 1 _ rfl) (by decide) 2 _) (blk_put (cs' := #[.string P0, .string P1, .string P2, .bool false]) (blk_put (cs' := #[.string P0, .string P1, .string (⟨#[]⟩ : ByteArray), .bool false]) (blk_put (cs' := #[.string P0, .string (⟨#[]⟩ : ByteArray), .string (⟨#[]⟩ : ByteArray), .bool false]) BK11_10.out 0 _ rfl) 1 _ rfl) 2 _ rfl) (by decide) 3 _) hb); have BK3_12 := Aside0.mk (blk_below (blk_far (blk_far (blk_far (blk_far BK3_10.out ne3b _) ne3b _) ne3b _) ne3b _) hb); have BK6_12 := Aside0.mk (blk_below (blk_far (blk_far (blk_far (blk_far BK6_10.out ne6b _) ne6b _) ne6b _) ne6b _) hb); have BK9_12 := Aside0.mk (blk_below (blk_far (blk_far (blk_far (blk_far BK9_10.out ne9b _) ne9b _) ne9b _) ne9b _) hb); have BK11_12 := Aside0.mk (blk_below (blk_put (cs' := #[.string P0, .string P1, .string P2, .bool P3]) (blk_put (cs' := #[.string P0, .string P1, .string P2, .bool false]) (blk_put (cs' := #[.string P0, .string P1, .string (⟨#[]⟩ : ByteArray), .bool false]) (blk_put (cs' := #[.string P0, .string (⟨#[]⟩ : ByteArray), .string (⟨#[]⟩ : ByteArray), .bool false]) BK11_10.out 0 _ rfl) 1 _ rfl) 2 _ rfl) 3 _ rfl) hb); have hz12a0 : w12.cell? ⟨g3, 0, none⟩ = some (.string a0_0) := (blk_cell BK3_12.out 0).trans rfl; have hz12a1 : w12.cell? ⟨g3, 1, none⟩ = some (.slice A0_1 l0_1.length c0_1) := (blk_cell BK3_12.out 1).trans rfl; have hf12a0 := blk_frozen BK3_12.out 0; have hf12a1 := blk_frozen BK3_12.out 1; have hz12b0 : w12.cell? ⟨g6, 0, none⟩ = some (.string (⟨#[]⟩ : ByteArray)) := (blk_cell BK6_12.out 0).trans rfl; have hz12b1 : w12.cell? ⟨g6, 1, none⟩ = some (.slice none 0 0) := (blk_cell BK6_12.out 1).trans rfl; have hf12b0 := blk_frozen BK6_12.out 0; have hf12b1 := blk_frozen BK6_12.out 1; have hz12c0 : w12.cell? ⟨g9, 0, none⟩ = some (.string oh) := (blk_cell BK9_12.out 0).trans rfl; have hz12c1 : w12.cell? ⟨g9, 1, none⟩ = some (.slice A9 ol.length c9) := (blk_cell BK9_12.out 1).trans rfl; have hf12c0 := blk_frozen BK9_12.out 0; have hf12c1 := blk_frozen BK9_12.out 1; have hz12d0 : w12.cell? ⟨g11, 0, none⟩ = some (.string P0) := (blk_cell BK11_12.out 0).trans rfl; have hz12d1 : w12.cell? ⟨g11, 1, none⟩ = some (.string P1) := (blk_cell BK11_12.out 1).trans rfl; have hz12d2 : w12.cell? ⟨g11, 2, none⟩ = some (.string P2) := (blk_cell BK11_12.out 2).trans rfl; have hz12d3 : w12.cell? ⟨g11, 3, none⟩ = some (.bool P3) := (blk_cell BK11_12.out 3).trans rfl; clear hb)
         | (go_at_call 26; refine (refs_why.calls k a0_0 A0_1 c0_1 l0_1 P0 P1 P2 P3 0 _ (Kd.C_below HR.out HB12.out) HC.out WW.out).mono ?_; rintro e w13 ⟨rfl, hb⟩; have HB13 := Aside0.mk (below_step HB12.out hb); have HR13 := Aside0.mk (Kd.R_below HR12.out hb); have BK3_13 := Aside0.mk (blk_below BK3_12.out hb); have BK6_13 := Aside0.mk (blk_below BK6_12.out hb); have BK9_13 := Aside0.mk (blk_below BK9_12.out hb); have BK11_13 := Aside0.mk (blk_below BK11_12.out hb); have hz13a0 : w13.cell? ⟨g3, 0, none⟩ = some (.string a0_0) := (blk_cell BK3_13.out 0).trans rfl; have hz13a1 : w13.cell? ⟨g3, 1, none⟩ = some (.slice A0_1 l0_1.length c0_1) := (blk_cell BK3_13.out 1).trans rfl; have hf13a0 := blk_frozen BK3_13.out 0; have hf13a1 := blk_frozen BK3_13.out 1; have hz13b0 : w13.cell? ⟨g6, 0, none⟩ = some (.string (⟨#[]⟩ : ByteArray)) := (blk_cell BK6_13.out 0).trans rfl; have hz13b1 : w13.cell? ⟨g6, 1, none⟩ = some (.slice none 0 0) := (blk_cell BK6_13.out 1).trans rfl; have hf13b0 := blk_frozen BK6_13.out 0; have hf13b1 := blk_frozen BK6_13.out 1; have hz13c0 : w13.cell? ⟨g9, 0, none⟩ = some (.string oh) := (blk_cell BK9_13.out 0).trans rfl; have hz13c1 : w13.cell? ⟨g9, 1, none⟩ = some (.slice A9 ol.length c9) := (blk_cell BK9_13.out 1).trans rfl; have hf13c0 := blk_frozen BK9_13.out 0; have hf13c1 := blk_frozen BK9_13.out 1; have hz13d0 : w13.cell? ⟨g11, 0, none⟩ = some (.string P0) := (blk_cell BK11_13.out 0).trans rfl; have hz13d1 : w13.cell? ⟨g11, 1, none⟩ = some (.string P1) := (blk_cell BK11_13.out 1).trans rfl; have hz13d2 : w13.cell? ⟨g11, 2, none⟩ = some (.string P2) := (blk_cell BK11_13.out 2).trans rfl; have hz13d3 : w13.cell? ⟨g11, 3, none⟩ = some (.bool P3) := (blk_cell BK11_13.out 3).trans rfl; clear hb)
         | (go_at_call 27; refine (refs_set.calls k oh A9 c9 ol P0 P2 rh rl _ (Kd.R_reads' HR13.out).2.2 (Kd.R_reads' HR13.out).2.1 SS.out).mono ?_; rintro e w14 ⟨v14, rfl, hR14, hb⟩; obtain ⟨A14, c14, rfl⟩ := Kd.R_slice hR14; have HB14 := Aside0.mk (below_step HB13.out hb); have HR14 := Aside0.mk (Kd.R_lower hR14 HB13.out.size); have BK3_14 := Aside0.mk (blk_below BK3_13.out hb); have BK6_14 := Aside0.mk (blk_below BK6_13.out hb); have BK9_14 := Aside0.mk (blk_below BK9_13.out hb); have hz14c0 : w14.cell? ⟨g9, 0, none⟩ = some (.string oh) := (blk_cell BK9_14.out 0).trans rfl; have hz14c1 : w14.cell? ⟨g9, 1, none⟩ = some (.slice A9 ol.length c9) := (blk_cell BK9_14.out 1).trans rfl; have hf14c0 := blk_frozen BK9_14.out 0; have hf14c1 := blk_frozen BK9_14.out 1; clear hb hR14))
        go_roundw
        case rel => exact ⟨x + 1, rh, rl, A14, c14, rfl, by omega, by omega, ⟨by rw [HN.out]; exact HA2.out⟩, ⟨Kd.R_set (Kd.R_set HR14.out BK9_14.out (by decide) 0 _) (blk_put (cs' := #[.string rh, .slice A9 ol.length c9]) BK9_14.out 0 _ rfl) (by decide) 1 _⟩, ⟨blk_far (blk_far BK3_14.out ne39 _) ne39 _⟩, ⟨blk_far (blk_far BK6_14.out ne69 _) ne69 _⟩, ⟨blk_put (cs' := #[.string rh, .slice A14 rl.length c14]) (blk_put (cs' := #[.string rh, .slice A9 ol.length c9]) BK9_14.out 0 _ rfl) 1 _ rfl⟩, ⟨below_set (below_set HB14.out GE9.out) GE9.out⟩⟩
        case measure =>
         simp [intOf]
         omega
       ·
        rw [if_neg d5] at hA
        have hA := Option.some.inj hA
        simp only [Prod.mk.injEq] at hA
        obtain ⟨rfl, rfl, rfl⟩ := hA
        have d5b0 : (ec == 0) = false := beq_eq_false_iff_ne.mpr d5
        have d5b1 : (ec != 0) = true := bne_iff_ne.mpr d5
        clear d5
        go_wp2_with (first
         | ((with_reducible refine gate_dst (N := 11) rfl ?_); refine box_event ?hg (N := 11) ?hd (cs := #[.string (⟨#[]⟩ : ByteArray), .string (⟨#[]⟩ : ByteArray), .string (⟨#[]⟩ : ByteArray), .bool false]) (t := 34) ?hr ?_; (case hd => rfl); (case hg => rfl); (case hr => first | (go_simp; done) | (go_simp; rfl)); intro g11 hg w10 hbox hb; have HB10 := Aside0.mk (below_step HBr.out hb); have HR10 := Aside0.mk (Kd.R_below HRr.out hb); have NB3_11 := Aside0.mk ((by rw [hg]; exact Nat.ne_of_lt (blk_lt BK3r.out)) : g3 ≠ g11); have NB6_11 := Aside0.mk ((by rw [hg]; exact Nat.ne_of_lt (blk_lt BK6r.out)) : g6 ≠ g11); have NB9_11 := Aside0.mk ((by rw [hg]; exact Nat.ne_of_lt (blk_lt BK9r.out)) : g9 ≠ g11); have BK3_10 := Aside0.mk (blk_below BK3r.out hb); have BK6_10 := Aside0.mk (blk_below BK6r.out hb); have BK9_10 := Aside0.mk (blk_below BK9r.out hb); have BK11_10 := Aside0.mk hbox; have GE11 := Aside0.mk ((by rw [hg]; exact HBr.out.size) : w.heap.size ≤ g11); have hza0 : w10.cell? ⟨g11, 0, none⟩ = some (.string (⟨#[]⟩ : ByteArray)) := (blk_cell BK11_10.out 0).trans rfl; have hfa0 := blk_frozen BK11_10.out 0; have hza1 : w10.cell? ⟨g11, 1, none⟩ = some (.string (⟨#[]⟩ : ByteArray)) := (blk_cell BK11_10.out 1).trans rfl; have hfa1 := blk_frozen BK11_10.out 1; have hza2 : w10.cell? ⟨g11, 2, none⟩ = some (.string (⟨#[]⟩ : ByteArray)) := (blk_cell BK11_10.out 2).trans rfl; have hfa2 := blk_frozen BK11_10.out 2; have hza3 : w10.cell? ⟨g11, 3, none⟩ = some (.bool false) := (blk_cell BK11_10.out 3).trans rfl; have hfa3 := blk_frozen BK11_10.out 3; have ne3b := NB3_11.out; have neb3 := NB3_11.out.symm; have ne6b := NB6_11.out; have neb6 := NB6_11.out.symm; have ne9b := NB9_11.out; have neb9 := NB9_11.out.symm; clear hb hbox hg)
         | (go_at_call 24; refine (refs_Apply.contains (some ad) c1 dn g11 P0 false _ (Kd.C_below HD.out (below_set (below_set (below_set (below_set HB10.out GE11.out) GE11.out) GE11.out) GE11.out)) ((blk_cell (blk_put (cs' := #[.string P0, .string P1, .string P2, .bool P3]) (blk_put (cs' := #[.string P0, .string P1, .string P2, .bool false]) (blk_put (cs' := #[.string P0, .string P1, .string (⟨#[]⟩ : ByteArray), .bool false]) (blk_put (cs' := #[.string P0, .string (⟨#[]⟩ : ByteArray), .string (⟨#[]⟩ : ByteArray), .bool false]) BK11_10.out 0 _ rfl) 1 _ rfl) 2 _ rfl) 3 _ rfl) 0).trans rfl) LD.out FD.out).mono ?_; rintro e w12 ⟨rfl, hb⟩; have HB12 := Aside0.mk (below_step (below_set (j := 3) (v := .bool P3) (below_set (j := 2) (v := .string P2) (below_set (j := 1) (v := .string P1) (below_set (j := 0) (v := .string P0) HB10.out GE11.out) GE11.out) GE11.out) GE11.out) hb); have HR12 := Aside0.mk (Kd.R_below (Kd.R_set (Kd.R_set (Kd.R_set (Kd.R_set HR10.out BK11_10.out (by decide) 0 _) (blk_put (cs' := #[.string P0, .string (⟨#[]⟩ : ByteArray), .string (⟨#[]⟩ : ByteArray), .bool false]) BK11_10.out 0 _ rfl) (by decide) 1 _) (blk_put (cs' := #[.string P0, .string P1, .string (⟨#[]⟩ : ByteArray), .bool false]) (blk_put (cs' := #[.string P0, .string (⟨#[]⟩ : ByteArray), .string (⟨#[]⟩ : ByteArray), .bool false]) BK11_10.out 0 _ rfl) 1 _ rfl) (by decide) 2 _) (blk_put (cs' := #[.string P0, .string P1, .string P2, .bool false]) (blk_put (cs' := #[.string P0, .string P1, .string (⟨#[]⟩ : ByteArray), .bool false]) (blk_put (cs' := #[.string P0, .string (⟨#[]⟩ : ByteArray), .string (⟨#[]⟩ : ByteArray), .bool false]) BK11_10.out 0 _ rfl) 1 _ rfl) 2 _ rfl) (by decide) 3 _) hb); have BK3_12 := Aside0.mk (blk_below (blk_far (blk_far (blk_far (blk_far BK3_10.out ne3b _) ne3b _) ne3b _) ne3b _) hb); have BK6_12 := Aside0.mk (blk_below (blk_far (blk_far (blk_far (blk_far BK6_10.out ne6b _) ne6b _) ne6b _) ne6b _) hb); have BK9_12 := Aside0.mk (blk_below (blk_far (blk_far (blk_far (blk_far BK9_10.out ne9b _) ne9b _) ne9b _) ne9b _) hb); have BK11_12 := Aside0.mk (blk_below (blk_put (cs' := #[.string P0, .string P1, .string P2, .bool P3]) (blk_put (cs' := #[.string P0, .string P1, .string P2, .bool false]) (blk_put (cs' := #[.string P0, .string P1, .string (⟨#[]⟩ : ByteArray), .bool false]) (blk_put (cs' := #[.string P0, .string (⟨#[]⟩ : ByteArray), .string (⟨#[]⟩ : ByteArray), .bool false]) BK11_10.out 0 _ rfl) 1 _ rfl) 2 _ rfl) 3 _ rfl) hb); have hz12a0 : w12.cell? ⟨g3, 0, none⟩ = some (.string a0_0) := (blk_cell BK3_12.out 0).trans rfl; have hz12a1 : w12.cell? ⟨g3, 1, none⟩ = some (.slice A0_1 l0_1.length c0_1) := (blk_cell BK3_12.out 1).trans rfl; have hf12a0 := blk_frozen BK3_12.out 0; have hf12a1 := blk_frozen BK3_12.out 1; have hz12b0 : w12.cell? ⟨g6, 0, none⟩ = some (.string (⟨#[]⟩ : ByteArray)) := (blk_cell BK6_12.out 0).trans rfl; have hz12b1 : w12.cell? ⟨g6, 1, none⟩ = some (.slice none 0 0) := (blk_cell BK6_12.out 1).trans rfl; have hf12b0 := blk_frozen BK6_12.out 0; have hf12b1 := blk_frozen BK6_12.out 1; have hz12c0 : w12.cell? ⟨g9, 0, none⟩ = some (.string oh) := (blk_cell BK9_12.out 0).trans rfl; have hz12c1 : w12.cell? ⟨g9, 1, none⟩ = some (.slice A9 ol.length c9) := (blk_cell BK9_12.out 1).trans rfl; have hf12c0 := blk_frozen BK9_12.out 0; have hf12c1 := blk_frozen BK9_12.out 1; have hz12d0 : w12.cell? ⟨g11, 0, none⟩ = some (.string P0) := (blk_cell BK11_12.out 0).trans rfl; have hz12d1 : w12.cell? ⟨g11, 1, none⟩ = some (.string P1) := (blk_cell BK11_12.out 1).trans rfl; have hz12d2 : w12.cell? ⟨g11, 2, none⟩ = some (.string P2) := (blk_cell BK11_12.out 2).trans rfl; have hz12d3 : w12.cell? ⟨g11, 3, none⟩ = some (.bool P3) := (blk_cell BK11_12.out 3).trans rfl; clear hb)
         | (go_at_call 26; refine (refs_why.calls k a0_0 A0_1 c0_1 l0_1 P0 P1 P2 P3 ec _ (Kd.C_below HR.out HB12.out) HC.out WW.out).mono ?_; rintro e w13 ⟨rfl, hb⟩; have HB13 := Aside0.mk (below_step HB12.out hb); have HR13 := Aside0.mk (Kd.R_below HR12.out hb); have BK3_13 := Aside0.mk (blk_below BK3_12.out hb); have BK6_13 := Aside0.mk (blk_below BK6_12.out hb); have BK9_13 := Aside0.mk (blk_below BK9_12.out hb); have BK11_13 := Aside0.mk (blk_below BK11_12.out hb); have hz13a0 : w13.cell? ⟨g3, 0, none⟩ = some (.string a0_0) := (blk_cell BK3_13.out 0).trans rfl; have hz13a1 : w13.cell? ⟨g3, 1, none⟩ = some (.slice A0_1 l0_1.length c0_1) := (blk_cell BK3_13.out 1).trans rfl; have hf13a0 := blk_frozen BK3_13.out 0; have hf13a1 := blk_frozen BK3_13.out 1; have hz13b0 : w13.cell? ⟨g6, 0, none⟩ = some (.string (⟨#[]⟩ : ByteArray)) := (blk_cell BK6_13.out 0).trans rfl; have hz13b1 : w13.cell? ⟨g6, 1, none⟩ = some (.slice none 0 0) := (blk_cell BK6_13.out 1).trans rfl; have hf13b0 := blk_frozen BK6_13.out 0; have hf13b1 := blk_frozen BK6_13.out 1; have hz13c0 : w13.cell? ⟨g9, 0, none⟩ = some (.string oh) := (blk_cell BK9_13.out 0).trans rfl; have hz13c1 : w13.cell? ⟨g9, 1, none⟩ = some (.slice A9 ol.length c9) := (blk_cell BK9_13.out 1).trans rfl; have hf13c0 := blk_frozen BK9_13.out 0; have hf13c1 := blk_frozen BK9_13.out 1; have hz13d0 : w13.cell? ⟨g11, 0, none⟩ = some (.string P0) := (blk_cell BK11_13.out 0).trans rfl; have hz13d1 : w13.cell? ⟨g11, 1, none⟩ = some (.string P1) := (blk_cell BK11_13.out 1).trans rfl; have hz13d2 : w13.cell? ⟨g11, 2, none⟩ = some (.string P2) := (blk_cell BK11_13.out 2).trans rfl; have hz13d3 : w13.cell? ⟨g11, 3, none⟩ = some (.bool P3) := (blk_cell BK11_13.out 3).trans rfl; clear hb))
        have Q1 : (w13.setCell ⟨g6, 0, none⟩ (.string a0_0)).heap[g6]? = some (.cells #[.string a0_0, .slice none 0 0] 24 (0, 0)) := blk_put BK6_13.out 0 _ rfl
        refine bodyPost_ret (results_ct rfl _ _ g6 24 #[.string a0_0, .slice A0_1 l0_1.length c0_1] (0, 0) _ rfl (blk_put Q1 1 _ rfl) Try.underlying24 rfl (by kernel_rfl)) rfl ?_
        have HBf := below_set (j := 1) (v := .slice A0_1 l0_1.length c0_1) (below_set (j := 0) (v := .string a0_0) HB13.out GE6.out) GE6.out
        exact ⟨_, rfl, Kd.V_mono (Kd.V_below HS.out HBf) (fun _ hk => .inl hk), HBf⟩
     ·
      have hx : x = (l1.length : Int) := by omega
      have hA := HA.out
      rw [hx, Int.toNat_natCast, List.drop_length] at hA
      simp only [refs_Apply.go] at hA
      clear HA
      have hzra0 : wr.cell? ⟨g3, 0, none⟩ = some (.string a0_0) := (blk_cell BK3r.out 0).trans rfl
      have hzra1 : wr.cell? ⟨g3, 1, none⟩ = some (.slice A0_1 l0_1.length c0_1) := (blk_cell BK3r.out 1).trans rfl
      have hfra0 := blk_frozen BK3r.out 0
      have hfra1 := blk_frozen BK3r.out 1
      have hzrb0 : wr.cell? ⟨g6, 0, none⟩ = some (.string (⟨#[]⟩ : ByteArray)) := (blk_cell BK6r.out 0).trans rfl
      have hzrb1 : wr.cell? ⟨g6, 1, none⟩ = some (.slice none 0 0) := (blk_cell BK6r.out 1).trans rfl
      have hfrb0 := blk_frozen BK6r.out 0
      have hfrb1 := blk_frozen BK6r.out 1
      have hzrc0 : wr.cell? ⟨g9, 0, none⟩ = some (.string oh) := (blk_cell BK9r.out 0).trans rfl
      have hzrc1 : wr.cell? ⟨g9, 1, none⟩ = some (.slice A9 ol.length c9) := (blk_cell BK9r.out 1).trans rfl
      have hfrc0 := blk_frozen BK9r.out 0
      have hfrc1 := blk_frozen BK9r.out 1
      by_cases d6 : (ol.length : Int) > 256
      · rw [if_pos d6] at hA
        have hA := Option.some.inj hA
        simp only [Prod.mk.injEq] at hA
        obtain ⟨rfl, rfl, rfl⟩ := hA
        have d6b0 : decide (256 < (ol.length : Int)) = true := decide_eq_true d6
        have d6b1 : decide (256 < ol.length) = true := decide_eq_true (by omega)
        clear d6 hx
        go_wp2
        have Q1 : (wr.setCell ⟨g6, 0, none⟩ (.string a0_0)).heap[g6]? = some (.cells #[.string a0_0, .slice none 0 0] 24 (0, 0)) := blk_put BK6r.out 0 _ rfl
        refine bodyPost_ret (results_ct rfl _ _ g6 24 #[.string a0_0, .slice A0_1 l0_1.length c0_1] (0, 0) _ rfl (blk_put Q1 1 _ rfl) Try.underlying24 rfl (by kernel_rfl)) rfl ?_
        have HBf := below_set (j := 1) (v := .slice A0_1 l0_1.length c0_1) (below_set (j := 0) (v := .string a0_0) HBr.out GE6.out) GE6.out
        exact ⟨_, rfl, Kd.V_mono (Kd.V_below HS.out HBf) (fun _ hk => .inl hk), HBf⟩
      · rw [if_neg d6] at hA
        have hA := Option.some.inj hA
        simp only [Prod.mk.injEq] at hA
        obtain ⟨rfl, rfl, rfl⟩ := hA
        have d6b0 : decide (256 < (ol.length : Int)) = false := decide_eq_false d6
        have d6b1 : decide (256 < ol.length) = false := decide_eq_false (by omega)
        clear d6 hx
        go_wp2
        have Q1 : (wr.setCell ⟨g6, 0, none⟩ (.string oh)).heap[g6]? = some (.cells #[.string oh, .slice none 0 0] 24 (0, 0)) := blk_put BK6r.out 0 _ rfl
        refine bodyPost_ret (results_ct rfl _ _ g6 24 #[.string oh, .slice A9 ol.length c9] (0, 0) _ rfl (blk_put Q1 1 _ rfl) Try.underlying24 rfl (by kernel_rfl)) rfl ?_
        have HBf := below_set (j := 1) (v := .slice A9 ol.length c9) (below_set (j := 0) (v := .string oh) HBr.out GE6.out) GE6.out
        exact ⟨_, rfl, Kd.V_mono (Kd.R_V (Kd.R_mono (Kd.R_bound (Kd.R_set (Kd.R_set HRr.out BK6r.out (by decide) 0 _) Q1 (by decide) 1 _)) (fun k_ hk => hk))) (fun _ hk => .inr hk.2.1), HBf⟩
   · rw [if_neg d3] at h
     cases h
  ·
   rw [if_neg d2] at h
   have h := Option.some.inj h
   simp only [Prod.mk.injEq] at h
   obtain ⟨rfl, rfl, rfl⟩ := h
   have d2b0 : (ec == 0) = false := beq_eq_false_iff_ne.mpr d2
   have d2b1 : (ec != 0) = true := bne_iff_ne.mpr d2
   clear d2
   go_enter Try.func8, Try.ntmps8
   go_wp2_with (first
    | ((with_reducible refine gate_dst (N := 3) rfl ?_); refine box_event ?hg (N := 3) ?hd (cs := #[.string a0_0, .slice A0_1 l0_1.length c0_1]) (t := 24) ?hr ?_; (case hd => rfl); (case hg => rfl); (case hr => first | (go_simp; done) | (go_simp; rfl)); intro g3 hg w4 hbox hb; have HB4 := Aside0.mk (below_step HB.out hb); have BK3 := Aside0.mk hbox; have GE3 := Aside0.mk ((by rw [hg]; exact Nat.le_refl _) : w.heap.size ≤ g3); clear hb hbox hg)
    | ((with_reducible refine gate_dst (N := 6) rfl ?_); refine box_event ?hg (N := 6) ?hd (cs := #[.string (⟨#[]⟩ : ByteArray), .slice none 0 0]) (t := 24) ?hr ?_; (case hd => rfl); (case hg => rfl); (case hr => first | (go_simp; done) | (go_simp; rfl)); intro g6 hg w5 hbox hb; have HB5 := Aside0.mk (below_step HB4.out hb); have NB36 := Aside0.mk ((by rw [hg]; exact Nat.ne_of_lt (blk_lt BK3.out)) : g3 ≠ g6); have BK3_5 := Aside0.mk (blk_below BK3.out hb); have BK6_5 := Aside0.mk hbox; have GE6 := Aside0.mk ((by rw [hg]; exact HB4.out.size) : w.heap.size ≤ g6); have hz50 : w5.cell? ⟨g3, 0, none⟩ = some (.string a0_0) := (blk_cell BK3_5.out 0).trans rfl; have hz51 : w5.cell? ⟨g3, 1, none⟩ = some (.slice A0_1 l0_1.length c0_1) := (blk_cell BK3_5.out 1).trans rfl; have hz52 : w5.cell? ⟨g6, 0, none⟩ = some (.string (⟨#[]⟩ : ByteArray)) := (blk_cell BK6_5.out 0).trans rfl; have hz53 : w5.cell? ⟨g6, 1, none⟩ = some (.slice none 0 0) := (blk_cell BK6_5.out 1).trans rfl; have hf52 := blk_frozen BK6_5.out 0; have hf53 := blk_frozen BK6_5.out 1; have ne36 := NB36.out; have ne63 := NB36.out.symm; clear hb hbox hg)
    | (go_at_call 18; refine (refs_Check.calls k a0_0 A0_1 c0_1 l0_1 ec _ (Kd.C_below HR.out HB5.out) HC.out PC.out).mono ?_; rintro e w6 ⟨rfl, hb⟩; have HB6 := Aside0.mk (below_step HB5.out hb); have BK3_6 := Aside0.mk (blk_below BK3_5.out hb); have BK6_6 := Aside0.mk (blk_below BK6_5.out hb); have hz6a0 : w6.cell? ⟨g3, 0, none⟩ = some (.string a0_0) := (blk_cell BK3_6.out 0).trans rfl; have hz6a1 : w6.cell? ⟨g3, 1, none⟩ = some (.slice A0_1 l0_1.length c0_1) := (blk_cell BK3_6.out 1).trans rfl; have hf6a0 := blk_frozen BK3_6.out 0; have hf6a1 := blk_frozen BK3_6.out 1; have hz6b0 : w6.cell? ⟨g6, 0, none⟩ = some (.string (⟨#[]⟩ : ByteArray)) := (blk_cell BK6_6.out 0).trans rfl; have hz6b1 : w6.cell? ⟨g6, 1, none⟩ = some (.slice none 0 0) := (blk_cell BK6_6.out 1).trans rfl; have hf6b0 := blk_frozen BK6_6.out 0; have hf6b1 := blk_frozen BK6_6.out 1; clear hb))
   have Q1 : (w6.setCell ⟨g6, 0, none⟩ (.string a0_0)).heap[g6]? = some (.cells #[.string a0_0, .slice none 0 0] 24 (0, 0)) := blk_put BK6_6.out 0 _ rfl
   refine bodyPost_ret (results_ct rfl _ _ g6 24 #[.string a0_0, .slice A0_1 l0_1.length c0_1] (0, 0) _ rfl (blk_put Q1 1 _ rfl) Try.underlying24 rfl (by kernel_rfl)) rfl ?_
   have HBf := below_set (j := 1) (v := .slice A0_1 l0_1.length c0_1) (below_set (j := 0) (v := .string a0_0) HB6.out GE6.out) GE6.out
   exact ⟨_, rfl, Kd.V_mono (Kd.V_below HS.out HBf) (fun _ hk => .inl hk), HBf⟩


end Go.Proofs.Ytgepbdkbleapaaa.M
