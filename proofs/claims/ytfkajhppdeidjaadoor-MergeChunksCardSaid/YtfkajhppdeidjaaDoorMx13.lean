/- The program's functions as plain functions, and that each call comes to what these tell; written by a program of this session, some contracts by hand. Conditions: none. -/
import Derived.Test.YtfkajhppdeidjaaDoorMx0
import Derived.Test.YtfkajhppdeidjaaDoorMx5
import Derived.Test.YtfkajhppdeidjaaDoorMx12
namespace Go.Proofs.YtfkajhppdeidjaaDoor.M
open Go.RowKit Go.Proofs.YtfkajhppdeidjaaDoorW.PrintWords Go.Proofs.YtfkajhppdeidjaaDoorW.PrintLast Go.Proofs.YtfkajhppdeidjaaDoorW.PrintMore
attribute [local go_sem] max2_int min2_int max_two min_two max_three min_three max_four min_four   -- for this text's walks alone
set_option linter.unusedVariables false
set_option linter.unusedSimpArgs false

/-! ### merge_Texts: function 15 (given by hand) -/
/-- What chunks come to, behind what there is: a text, or a clash. -/
def merge_Texts.go : List (S32) → ByteArray → Option (Option ByteArray)
 | [], s => some (some s)
 | x :: l, s => if x.f0 = 5 then some none else (merge_lines.f x.f0 x.f1 x.f2 x.f3).bind fun t => (strings_Join.f t (⟨#[]⟩ : ByteArray)).bind fun u => if s.size + u.size ≤ 140737488355328 then merge_Texts.go l (s ++ u) else none
def merge_Texts.out : Option ByteArray → ByteArray × Bool × Int
 | some s => (s, true, 0)
 | none => ((⟨#[]⟩ : ByteArray), false, 0)
def merge_Texts.f (k : Nat) (a0 : ByteArray) (a1 : ByteArray) (a2 : ByteArray) : Option (ByteArray × Bool × Int) := (diff_Lines.f a0).bind fun x => (diff_Lines.f a1).bind fun y => (diff_Lines.f a2).bind fun z => (merge_Chunks.f k x y z).bind fun r => if r.2 = 0 then (merge_Texts.go r.1 (⟨#[]⟩ : ByteArray)).bind fun o => some (merge_Texts.out o) else some ((⟨#[]⟩ : ByteArray), false, r.2)
theorem merge_Texts.mono : ∀ a0 a1 a2 k, LeO (merge_Texts.f k a0 a1 a2) (merge_Texts.f (k + 1) a0 a1 a2) := by
 intro a0 a1 a2 k
 unfold merge_Texts.f
 exact LeO.bind (LeO.refl _) (fun _ => LeO.bind (LeO.refl _) (fun _ => LeO.bind (LeO.refl _) (fun _ => LeO.bind (merge_Chunks.mono _ _ _ _) (fun _ => LeO.refl _))))
theorem merge_Texts.drop (l : List (S32)) (x : Int) (h0 : 0 ≤ x) (h1 : x < (l.length : Int)) : l.drop x.toNat = l.getD x.toNat z32 :: l.drop (x + 1).toNat := by
 have hl : x.toNat < l.length := by omega
 rw [List.drop_eq_getElem_cons hl, show (x + 1).toNat = x.toNat + 1 by omega]
 simp [List.getD, hl]
theorem merge_Texts.builder_below {T e : TypeId} {B b : Nat} {bs : List Value} {w w1 : World} (h : Lib.IsBuilderF T e B b bs w) (hb : Below w.heap.size w w1) : Lib.IsBuilderF T e B b bs w1 := by
 have go : ∀ p, Lib.BuilderAtF T e B b p bs w → Lib.BuilderAtF T e B b p bs w1 := by
  rintro p h
  have hlt := h.lt
  obtain ⟨hB, v, hv, hown, hne⟩ := h
  exact ⟨hB, v, (hb.block b hlt).trans hv, hown.kept (grown_of_below hb none) (by cases hv : v.ownBlock <;> simp), hne⟩
 exact h.elim (fun x => .inl (go _ x)) (fun x => .inr (go _ x))
theorem merge_Texts.strCells_append (a b : ByteArray) : Lib.strCells a ++ Lib.strCells b = Lib.strCells (a ++ b) := by
 simp [Lib.strCells]
theorem merge_Texts.add_add (a : Addr) (i j : Nat) : (a.add i).add j = a.add (i + j) := by
 unfold Addr.add
 by_cases hi : i = 0 <;> by_cases hj : j = 0 <;> simp [hi, hj, Nat.add_assoc]
theorem merge_Texts.cell0 {w : World} {ad : Addr} {cs : List Value} (h : ∀ j u, cs[j]? = some u → w.cell? (ad.add j) = some u) {a b c d : Value} (hc : cs = [a, b, c, d]) : w.cell? ad = some a ∧ w.cell? ⟨ad.block, ad.off + 1, none⟩ = some b ∧ w.cell? ⟨ad.block, ad.off + 2, none⟩ = some c ∧ w.cell? ⟨ad.block, ad.off + 3, none⟩ = some d := by
 subst hc
 exact ⟨h 0 _ rfl, h 1 _ rfl, h 2 _ rfl, h 3 _ rfl⟩
set_option maxHeartbeats 8000000 in
set_option maxRecDepth 100000 in
theorem merge_Texts.calls (k : Nat) (a0 : ByteArray) (a1 : ByteArray) (a2 : ByteArray) (r1 : ByteArray) (r2 : Bool) (r3 : Int) (w : World) (h : merge_Texts.f k a0 a1 a2 = some (r1, r2, r3)) :
 Calls Tryd.prog 15 #[.string a0, .string a1, .string a2] w fun e w' => e = .returned (.tuple #[.string r1, .bool r2, .int .i64 r3]) ∧ Below w.heap.size w w' := by
 have hu := Tryd.underlying32
 obtain ⟨x, hx, h⟩ := Option.bind_eq_some_iff.mp h
 obtain ⟨y, hy, h⟩ := Option.bind_eq_some_iff.mp h
 obtain ⟨z, hz, h⟩ := Option.bind_eq_some_iff.mp h
 obtain ⟨⟨L, e⟩, hr, h⟩ := Option.bind_eq_some_iff.mp h
 have X := Aside0.mk hx
 have Y := Aside0.mk hy
 have Z := Aside0.mk hz
 have R := Aside0.mk hr
 clear hx hy hz hr
 dsimp only at h
 by_cases c0 : e = 0
 ·
  rw [if_pos c0] at h
  subst c0
  obtain ⟨o, ho, h⟩ := Option.bind_eq_some_iff.mp h
  have h := Option.some.inj h
  have O := Aside0.mk ho
  have OUT := Aside0.mk h
  clear ho h
  go_enter Tryd.func15, Tryd.ntmps15
  go_wp2_with fail
  refine (diff_Lines.calls a0 x _ X.out).mono ?_
  rintro e w1 ⟨v1, rfl, hR1, hb1⟩
  obtain ⟨A1, q1, e1⟩ := Kd.R_slice hR1
  subst e1
  have HR1 := Aside0.mk hR1
  have HB1 := Aside0.mk hb1
  clear hR1 hb1
  go_wp2_with fail
  refine (diff_Lines.calls a1 y _ Y.out).mono ?_
  rintro e w2 ⟨v2, rfl, hR2, hb2⟩
  obtain ⟨A2, q2, e2⟩ := Kd.R_slice hR2
  subst e2
  have HR2 := Aside0.mk hR2
  have HB2 := Aside0.mk hb2
  clear hR2 hb2
  go_wp2_with fail
  refine (diff_Lines.calls a2 z _ Z.out).mono ?_
  rintro e w3 ⟨v3, rfl, hR3, hb3⟩
  obtain ⟨A3, q3, e3⟩ := Kd.R_slice hR3
  subst e3
  have HR3 := Aside0.mk hR3
  have HB3 := Aside0.mk hb3
  clear hR3 hb3
  go_wp2_with fail
  have R1' := Kd.R_reads' (Kd.R_below (Kd.R_below HR1.out HB2.out) HB3.out)
  have R2' := Kd.R_reads' (Kd.R_below HR2.out HB3.out)
  have R3' := Kd.R_reads' HR3.out
  refine (merge_Chunks.calls k A1 q1 x A2 q2 y A3 q3 z L 0 w3 R1'.2.2 R1'.2.1 R2'.2.2 R2'.2.1 R3'.2.2 R3'.2.1 R.out).mono ?_
  clear R1' R2' R3'
  rintro e w4 ⟨v4, rfl, hR4, hb4⟩
  replace hR4 := Kd.S_R hR4
  obtain ⟨A4, q4, e4⟩ := Kd.R_slice hR4
  subst e4
  have HR4 := Aside0.mk hR4
  have HB4 := Aside0.mk hb4
  clear hR4 hb4
  go_wp2_with fail
  have hB : Below w.heap.size w w4 := ((HB1.out.trans (HB2.out.mono HB1.out.size)).trans (HB3.out.mono (Nat.le_trans HB1.out.size HB2.out.size))).trans (HB4.out.mono (Nat.le_trans HB1.out.size (Nat.le_trans HB2.out.size HB3.out.size)))
  have hI0 : Aside0 (Lib.IsBuilderF 54 5 w4.heap.size w4.heap.size (Lib.strCells (⟨#[]⟩ : ByteArray)) (w4.alloc (.cells #[.pointer none, .slice none 0 0] 54))) := ⟨Lib.IsBuilderF.of (Lib.fresh_isBuilder 54 5 w4)⟩
  have hB0 : Aside0 (Below w.heap.size w (w4.alloc (.cells #[.pointer none, .slice none 0 0] 54))) := ⟨hB.alloc (hB.size) _⟩
  have hW : Aside0 (w.heap.size ≤ w4.heap.size) := ⟨hB.size⟩
  have hF0 : Aside0 (Kd.F k32 (w4.alloc (.cells #[.pointer none, .slice none 0 0] 54)) (fun k_ => k_ < w4.heap.size) A4 L.length L) := ⟨Kd.F_alloc (Kd.F_mono (Kd.F_bound (Kd.R_F HR4.out)) (fun _ hk => hk.2)) _⟩
  have HL := Aside0.mk (show (L.length : Int) ≤ 9223372036854775807 by have := (Kd.R_reads' HR4.out).2.2.2.1; omega)
  clear hB HR1 HR2 HR3 HB1 HB2 HB3 HB4 HR4
  go_loopw [29] (fun v29 wr => ∃ (t : ByteArray) (i : Int), v29 = .int .i64 i ∧ 0 ≤ i ∧ i ≤ (L.length : Int) ∧ Aside0 (merge_Texts.go (L.drop i.toNat) t = some o) ∧ Aside0 (Lib.IsBuilderF 54 5 w4.heap.size w4.heap.size (Lib.strCells t) wr) ∧ Aside0 (Below w.heap.size w wr) ∧ Aside0 (Kd.F k32 wr (fun k_ => k_ < w4.heap.size) A4 L.length L)) (fun v29 _ => L.length - (intOf v29).toNat)
  case atStart => exact ⟨_, 0, rfl, by omega, by omega, O, hI0, hB0, hF0⟩
  case round =>
   obtain ⟨t, i, rfl, h0, h1, HA, HI, HB, HF⟩ := hrel
   clear O hI0 hB0 hF0
   have hsz : w4.heap.size ≤ wr.heap.size := by
    rcases HI.out with h | h
    · have := h.lt; omega
    · have := h.lt; omega
   have HZ := Aside0.mk hsz
   clear hsz
   by_cases hlt : i < (L.length : Int)
   ·
    have hA := HA.out
    rw [merge_Texts.drop L i h0 hlt] at hA
    obtain ⟨ad, cs, e, _, hFK, hcc, _⟩ := Kd.F_get HF.out z32 i h0 hlt
    subst e
    obtain ⟨ch, hch⟩ : ∃ q, L.getD i.toNat z32 = q := ⟨_, rfl⟩
    rw [hch] at hA hFK
    obtain ⟨B1, b1, B2, b2, B3, b3, hcs, hl1, hf1, hl2, hf2, hl3, hf3⟩ := k32_openF hFK
    have hcc' : ∀ j u, cs[j]? = some u → wr.cell? ((ad.add (i.toNat * 4)).add j) = some u := fun j u hj => by
     rw [merge_Texts.add_add]
     exact hcc j u hj
    obtain ⟨hx0, hx1, hx2, hx3⟩ := merge_Texts.cell0 hcc' hcs
    have F1 := Aside0.mk hf1
    have F2 := Aside0.mk hf2
    have F3 := Aside0.mk hf3
    have L1 := Aside0.mk hl1
    have L2 := Aside0.mk hl2
    have L3 := Aside0.mk hl3
    have hl := HL.out
    clear hFK hcc hcs hcc' hf1 hf2 hf3 hl1 hl2 hl3 hch HA
    simp only [merge_Texts.go] at hA
    by_cases c5 : ch.f0 = 5
    · rw [if_pos c5] at hA
      obtain rfl := Option.some.inj hA
      have b5 : (ch.f0 == 5) = true := beq_iff_eq.mpr c5
      clear hA c5
      go_wp2_with fail
      go_ret3
      have ho := OUT.out
      unfold merge_Texts.out at ho
      rw [Prod.mk.injEq, Prod.mk.injEq] at ho
      obtain ⟨z1, z2, z3⟩ := ho
      rw [← z1, ← z2, ← z3]
      exact ⟨rfl, below_alloc HB.out _⟩
    ·
     rw [if_neg c5] at hA
     obtain ⟨t1, ht1, hA⟩ := Option.bind_eq_some_iff.mp hA
     obtain ⟨u, hu1, hA⟩ := Option.bind_eq_some_iff.mp hA
     have b5 : (ch.f0 == 5) = false := beq_eq_false_iff_ne.mpr c5
     by_cases hs : t.size + u.size ≤ 140737488355328
     ·
      rw [if_pos hs] at hA
      have HA2 := Aside0.mk hA
      have T1 := Aside0.mk ht1
      have U := Aside0.mk hu1
      have HS := Aside0.mk hs
      clear hA ht1 hu1 hs c5
      go_wp2_with fail
      refine (merge_lines.calls ch.f0 B1 b1 ch.f1 (fun k_ => k_ < w4.heap.size) B2 b2 ch.f2 (fun k_ => k_ < w4.heap.size) B3 b3 ch.f3 t1 (wr.alloc (.cells #[.int .i64 ch.f0, .slice B1 ch.f1.length b1, .slice B2 ch.f2.length b2, .slice B3 ch.f3.length b3] 32)) (Kd.F_now (Kd.F_alloc F1.out _)) L1.out (Kd.V_mk L2.out (Kd.F_alloc F2.out _)) (Kd.V_mk L3.out (Kd.F_alloc F3.out _)) T1.out).mono ?_
      rintro e w9 ⟨v9, rfl, hV9, hb9⟩
      obtain ⟨A9, q9, e9⟩ := Kd.V_slice hV9
      subst e9
      have V9 := Aside0.mk hV9
      have HI9 := Aside0.mk (merge_Texts.builder_below (HI.out.alloc (.cells #[.int .i64 ch.f0, .slice B1 ch.f1.length b1, .slice B2 ch.f2.length b2, .slice B3 ch.f3.length b3] 32)) hb9)
      have HB9 := Aside0.mk ((below_alloc HB.out (.cells #[.int .i64 ch.f0, .slice B1 ch.f1.length b1, .slice B2 ch.f2.length b2, .slice B3 ch.f3.length b3] 32)).trans (hb9.mono (below_size (below_alloc HB.out _))))
      have HF9 := Aside0.mk (Kd.F_below (Kd.F_alloc HF.out (.cells #[.int .i64 ch.f0, .slice B1 ch.f1.length b1, .slice B2 ch.f2.length b2, .slice B3 ch.f3.length b3] 32)) hb9)
      have HZ9 := Aside0.mk (Nat.le_trans HZ.out (Nat.le_trans (below_size (below_alloc (Below.refl wr.heap.size wr) (.cells #[.int .i64 ch.f0, .slice B1 ch.f1.length b1, .slice B2 ch.f2.length b2, .slice B3 ch.f3.length b3] 32))) hb9.size))
      clear hV9 hb9
      go_wp2_with fail
      refine (strings_Join.calls A9 q9 t1 (⟨#[]⟩ : ByteArray) u w9 (Kd.V_reads' V9.out).2.2 (Kd.V_reads' V9.out).2.1 U.out).mono ?_
      rintro e w10 ⟨rfl, hb10⟩
      have HI10 := Aside0.mk (merge_Texts.builder_below HI9.out hb10)
      have HB10 := Aside0.mk (HB9.out.trans (hb10.mono HB9.out.size))
      have HF10 := Aside0.mk (Kd.F_below HF9.out hb10)
      have HZ10 := Aside0.mk (Nat.le_trans HZ9.out hb10.size)
      clear hb10
      go_wp2_with fail
      have C_ := Tryd.builder_WriteString w4.heap.size w4.heap.size _ u w10 HI10.out (by rw [Lib.strCells_length]; exact HS.out) HZ10.out
      rw [merge_Texts.strCells_append] at C_
      refine C_.mono ?_
      clear C_
      rintro e w11 ⟨rfl, hI11, hb11, -⟩
      have HI11 : Aside0 (Lib.IsBuilderF 54 5 w4.heap.size w4.heap.size (Lib.strCells (t ++ u)) w11) := ⟨.inr hI11⟩
      have HB11 := Aside0.mk (HB10.out.trans (hb11.mono hW.out))
      have HF11 := Aside0.mk (Kd.F_step HF10.out (fun k_ hk_ _ => hb11.block k_ hk_))
      clear hI11 hb11
      go_wp2_with fail
      go_roundw
      case rel => exact ⟨_, i + 1, rfl, by omega, by omega, HA2, HI11, HB11, HF11⟩
      case measure =>
       simp [intOf]
       omega
     · rw [if_neg hs] at hA
       cases hA
   ·
    have hx : i = (L.length : Int) := by omega
    have hA := HA.out
    rw [hx, Int.toNat_natCast, List.drop_length] at hA
    have hA := Option.some.inj hA
    subst hA
    clear hx HA
    go_wp2_with (go_at_call 28; refine (Tryd.builder_String w4.heap.size w4.heap.size t.data.toList _ HI.out HZ.out).mono ?_; rintro e w2 ⟨rfl, -, hb2, -⟩; have HBS := Aside0.mk hb2; clear hb2)
    go_ret3
    have ho := OUT.out
    unfold merge_Texts.out at ho
    rw [Prod.mk.injEq, Prod.mk.injEq] at ho
    obtain ⟨z1, z2, z3⟩ := ho
    rw [← z1, ← z2, ← z3]
    exact ⟨by simp, HB.out.trans (HBS.out.mono hW.out)⟩
 ·
  rw [if_neg c0] at h
  have h := Option.some.inj h
  rw [Prod.mk.injEq, Prod.mk.injEq] at h
  obtain ⟨z1, z2, z3⟩ := h
  subst z1
  subst z2
  subst z3
  have b0 : (e == 0) = false := beq_eq_false_iff_ne.mpr c0
  have b1 : (e != 0) = true := bne_iff_ne.mpr c0
  clear c0
  go_enter Tryd.func15, Tryd.ntmps15
  go_wp2_with fail
  refine (diff_Lines.calls a0 x _ X.out).mono ?_
  rintro e w1 ⟨v1, rfl, hR1, hb1⟩
  obtain ⟨A1, q1, e1⟩ := Kd.R_slice hR1
  subst e1
  have HR1 := Aside0.mk hR1
  have HB1 := Aside0.mk hb1
  clear hR1 hb1
  go_wp2_with fail
  refine (diff_Lines.calls a1 y _ Y.out).mono ?_
  rintro e w2 ⟨v2, rfl, hR2, hb2⟩
  obtain ⟨A2, q2, e2⟩ := Kd.R_slice hR2
  subst e2
  have HR2 := Aside0.mk hR2
  have HB2 := Aside0.mk hb2
  clear hR2 hb2
  go_wp2_with fail
  refine (diff_Lines.calls a2 z _ Z.out).mono ?_
  rintro e w3 ⟨v3, rfl, hR3, hb3⟩
  obtain ⟨A3, q3, e3⟩ := Kd.R_slice hR3
  subst e3
  have HR3 := Aside0.mk hR3
  have HB3 := Aside0.mk hb3
  clear hR3 hb3
  go_wp2_with fail
  have R1' := Kd.R_reads' (Kd.R_below (Kd.R_below HR1.out HB2.out) HB3.out)
  have R2' := Kd.R_reads' (Kd.R_below HR2.out HB3.out)
  have R3' := Kd.R_reads' HR3.out
  refine (merge_Chunks.calls k A1 q1 x A2 q2 y A3 q3 z L e w3 R1'.2.2 R1'.2.1 R2'.2.2 R2'.2.1 R3'.2.2 R3'.2.1 R.out).mono ?_
  clear R1' R2' R3'
  rintro e w4 ⟨v4, rfl, hR4, hb4⟩
  replace hR4 := Kd.S_R hR4
  obtain ⟨A4, q4, e4⟩ := Kd.R_slice hR4
  subst e4
  have HR4 := Aside0.mk hR4
  have HB4 := Aside0.mk hb4
  clear hR4 hb4
  go_wp2_with fail
  go_ret3
  exact ⟨rfl, ((HB1.out.trans (HB2.out.mono HB1.out.size)).trans (HB3.out.mono (Nat.le_trans HB1.out.size HB2.out.size))).trans (HB4.out.mono (Nat.le_trans HB1.out.size (Nat.le_trans HB2.out.size HB3.out.size)))⟩


end Go.Proofs.YtfkajhppdeidjaaDoor.M
