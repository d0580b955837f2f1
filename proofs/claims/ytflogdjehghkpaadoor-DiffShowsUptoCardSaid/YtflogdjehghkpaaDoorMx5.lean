/- The program's functions as plain functions, and that each call comes to what these tell; written by a program of this session, some contracts by hand. Conditions: none. -/
import Derived.Test.YtflogdjehghkpaaDoorMx0
import Derived.Test.YtflogdjehghkpaaDoorMx3
import Derived.Test.YtflogdjehghkpaaDoorMx4
namespace Go.Proofs.YtflogdjehghkpaaDoor.M
open Go.RowKit Go.Proofs.YtflogdjehghkpaaDoorW.PrintWords Go.Proofs.YtflogdjehghkpaaDoorW.PrintLast Go.Proofs.YtflogdjehghkpaaDoorW.PrintMore
attribute [local go_sem] max2_int min2_int max_two min_two max_three min_three max_four min_four   -- for this text's walks alone
set_option linter.unusedVariables false
set_option linter.unusedSimpArgs false

/-! ### diff_Show: function 16 (given by hand) -/
/-- Lines behind a sign, behind what there is. -/
def diff_Show.put (sign : ByteArray) : List ByteArray → ByteArray → Option ByteArray
  | [], s => some s
  | x :: l, s => (strings_TrimSuffix.f x (⟨#[10]⟩ : ByteArray)).bind fun t => if s.size + (sign.size + t.size + 1) ≤ 140737488355328 then diff_Show.put sign l (s ++ (sign ++ t ++ (⟨#[10]⟩ : ByteArray))) else none
def diff_Show.cut (l : List ByteArray) (i j : Int) : List ByteArray := (l.take j.toNat).drop i.toNat
/-- What is told between pairs. -/
def diff_Show.go (a b : List ByteArray) : List (S35) → Int → Int → ByteArray → Option ByteArray
  | [], _, _, s => some s
  | p :: ps, i, j, s => if 0 ≤ i ∧ i ≤ p.f0 ∧ p.f0 ≤ (a.length : Int) ∧ 0 ≤ j ∧ j ≤ p.f1 ∧ p.f1 ≤ (b.length : Int) then
      (diff_Show.put (⟨#[45]⟩ : ByteArray) (diff_Show.cut a i p.f0) s).bind fun s1 => (diff_Show.put (⟨#[43]⟩ : ByteArray) (diff_Show.cut b j p.f1) s1).bind fun s2 =>
        if p.f0 < (a.length : Int) then (diff_Show.put (⟨#[32]⟩ : ByteArray) (diff_Show.cut a p.f0 (p.f0 + 1)) s2).bind fun s3 => diff_Show.go a b ps (p.f0 + 1) (p.f1 + 1) s3
        else diff_Show.go a b ps (p.f0 + 1) (p.f1 + 1) s2
    else none
def diff_Show.f (k : Nat) (l0 : List ByteArray) (l1 : List ByteArray) : Option (ByteArray × Int) := (diff_Pairs.f k l0 l1).bind fun r => if r.2 = 0 then (if r.1.length < 8796093022208 ∧ l0.length ≤ 1000000 ∧ l1.length ≤ 1000000 then (diff_Show.go l0 l1 (r.1 ++ [(⟨(l0.length : Int), (l1.length : Int)⟩ : S35)]) 0 0 (⟨#[]⟩ : ByteArray)).bind fun s => some (s, 0) else none) else some ((⟨#[]⟩ : ByteArray), r.2)
theorem diff_Show.mono : ∀ a0 a1 k, LeO (diff_Show.f k a0 a1) (diff_Show.f (k + 1) a0 a1) := by
  intro a0 a1 k
  unfold diff_Show.f
  exact LeO.bind (diff_Pairs.mono _ _ _) (fun _ => LeO.refl _)
theorem diff_Show.drop (l : List ByteArray) (x : Int) (h0 : 0 ≤ x) (h1 : x < (l.length : Int)) : l.drop x.toNat = rdOf ByteArray.empty l x :: l.drop (x + 1).toNat := by
  have hl : x.toNat < l.length := by omega
  rw [List.drop_eq_getElem_cons hl, show (x + 1).toNat = x.toNat + 1 by omega]
  unfold rdOf
  simp [List.getD, hl]
theorem diff_Show.builder_below {T e : TypeId} {B b : Nat} {bs : List Value} {w w1 : World} (h : Lib.IsBuilderF T e B b bs w) (hb : Below w.heap.size w w1) : Lib.IsBuilderF T e B b bs w1 := by
  have go : ∀ p, Lib.BuilderAtF T e B b p bs w → Lib.BuilderAtF T e B b p bs w1 := by
    rintro p h
    have hlt := h.lt
    obtain ⟨hB, v, hv, hown, hne⟩ := h
    exact ⟨hB, v, (hb.block b hlt).trans hv, hown.kept (grown_of_below hb none) (by cases hv : v.ownBlock <;> simp), hne⟩
  exact h.elim (fun x => .inl (go _ x)) (fun x => .inr (go _ x))
theorem diff_Show.builder_drewN {T e : TypeId} {B b : Nat} {bs : List Value} {w : World} (h : Lib.IsBuilderF T e B b bs w) (n : Nat) : Lib.IsBuilderF T e B b bs (w.drewN n) := h
theorem diff_Show.below_drewN {B : Nat} {a w : World} (h : Below B a w) (n : Nat) : Below B a (w.drewN n) := ⟨h.1, h.2, h.3, h.4, h.5⟩
theorem diff_Show.size_drewN {B : Nat} {w : World} (h : B ≤ w.heap.size) (n : Nat) : B ≤ (w.drewN n).heap.size := h
theorem diff_Show.others_drewN {e : TypeId} {b : Option Nat} {a w : World} (h : Lib.OthersKept e b a w) (n : Nat) : Lib.OthersKept e b a (w.drewN n) := h
theorem diff_Show.strCells_append (a b : ByteArray) : Lib.strCells a ++ Lib.strCells b = Lib.strCells (a ++ b) := by
  simp [Lib.strCells]
set_option maxHeartbeats 4000000 in
set_option maxRecDepth 100000 in
/-- The closure: what it writes. -/
theorem diff_Show.put_calls (sign : ByteArray) (b B : Nat) (A : Option Addr) (c : Nat) (l : List ByteArray) (s r : ByteArray) (w0 w : World) (hsg : sign.size ≤ 10) (hr : Kd.C Kd.string w0 A l.length l) (hb : Below w0.heap.size w0 w) (hI : Lib.IsBuilderF 50 5 B b (Lib.strCells s) w) (hB : w0.heap.size ≤ B) (hBw : B ≤ w.heap.size) (h : diff_Show.put sign l s = some r) :
    Calls Tryd.prog 19 #[.string sign, .slice A l.length c, .pointer (some ⟨b, 0, none⟩)] w fun e w' => e = .returned (.tuple #[]) ∧ Lib.IsBuilderF 50 5 B b (Lib.strCells r) w' ∧ Below B w w' ∧ Lib.OthersKept 5 (some b) w w' := by
  have HR := Aside0.mk hr
  have HB0 := Aside0.mk hb
  have HBB := Aside0.mk hB
  have HZ := Aside0.mk hBw
  have HL := Aside0.mk (show (l.length : Int) ≤ 9223372036854775807 by have := hr.2.1; omega)
  have H' := Aside0.mk h
  have HI0 := Aside0.mk hI
  have HW0 := Aside0.mk (Below.refl B w)
  have HO0 := Aside0.mk (Lib.OthersKept.refl 5 (some b) w)
  clear hr hb hB hBw h hI
  go_enter Tryd.func19, Tryd.ntmps19
  go_wp2_with fail
  go_loopw [9] (fun v9 wr => ∃ (t : ByteArray) (x : Int), v9 = .int .i64 x ∧ 0 ≤ x ∧ x ≤ (l.length : Int) ∧ Aside0 (diff_Show.put sign (l.drop x.toNat) t = some r) ∧ Aside0 (Lib.IsBuilderF 50 5 B b (Lib.strCells t) wr) ∧ Aside0 (Below B w wr) ∧ Aside0 (Lib.OthersKept 5 (some b) w wr)) (fun v9 _ => l.length - (intOf v9).toNat)
  case atStart => exact ⟨s, 0, rfl, by omega, by omega, H', HI0, HW0, HO0⟩
  case round =>
    obtain ⟨t, x, rfl, h0, h1, HA, HI, HB, HO⟩ := hrel
    clear H' HI0 HW0 HO0
    by_cases hlt : x < (l.length : Int)
    · have hA := HA.out
      rw [diff_Show.drop l x h0 hlt] at hA
      simp only [diff_Show.put] at hA
      obtain ⟨t1, ht1, hA⟩ := Option.bind_eq_some_iff.mp hA
      have hl := HL.out
      clear HA
      by_cases hs : t.size + (sign.size + t1.size + 1) ≤ 140737488355328
      · rw [if_pos hs] at hA
        have HA2 := Aside0.mk hA
        have HT := Aside0.mk ht1
        obtain ⟨ad, e, hx⟩ := Kd.at_string HR.out x h0 hlt
        subst e
        have hbw : Below w0.heap.size w0 w := HB0.out
        replace hx := ((hbw.trans (HB.out.mono HBB.out)).cell (World.block_lt_of_cell? w0 _ hx)).trans hx
        have hZ2 : B ≤ wr.heap.size := Nat.le_trans HZ.out HB.out.size
        have HZ2 := Aside0.mk hZ2
        obtain ⟨x0, hx0⟩ : ∃ q, rdOf ByteArray.empty l x = q := ⟨_, rfl⟩
        rw [hx0] at hx
        rw [hx0] at HT
        have e1 : (⟨#[10]⟩ : ByteArray).size = 1 := rfl
        have y0 : sign.size + t1.size ≤ 9223372036854775807 := by omega
        have y1 : sign.size + t1.size + 1 ≤ 9223372036854775807 := by omega
        have y2 : (sign ++ t1).size + 1 ≤ 9223372036854775807 := by rw [ByteArray.size_append]; omega
        have HS := Aside0.mk (show t.size + (sign ++ t1 ++ (⟨#[10]⟩ : ByteArray)).size ≤ 140737488355328 by rw [ByteArray.size_append, ByteArray.size_append, e1]; exact hs)
        have yb0 := eq_true y0
        have yf0 : (9223372036854775807 < sign.size + t1.size) = False := eq_false (Nat.not_lt.2 y0)
        have yb1 := eq_true y1
        have yf1 : (9223372036854775807 < sign.size + t1.size + 1) = False := eq_false (Nat.not_lt.2 y1)
        have yb2 := eq_true y2
        have yf2 : (9223372036854775807 < (sign ++ t1).size + 1) = False := eq_false (Nat.not_lt.2 y2)
        clear hA ht1 hs hbw hZ2 hx0 y0 y1 y2 e1
        go_wp2_with (first
          | (go_at_call 21; refine (strings_TrimSuffix.calls x0 (⟨#[10]⟩ : ByteArray) t1 _ HT.out).mono ?_; rintro e w5 ⟨rfl, ⟨nd, rfl⟩⟩)
          | (go_at_call 20; have C_ := Tryd.builder_WriteString B b _ (sign ++ t1 ++ (⟨#[10]⟩ : ByteArray)) (wr.drewN nd) (diff_Show.builder_drewN HI.out nd) (by rw [Lib.strCells_length]; exact HS.out) (diff_Show.size_drewN HZ2.out nd); rw [diff_Show.strCells_append] at C_; refine C_.mono ?_; clear C_; rintro e w6 ⟨rfl, hI6, hb6, hk6⟩; have HI6 : Aside0 (Lib.IsBuilderF 50 5 B b (Lib.strCells (t ++ (sign ++ t1 ++ (⟨#[10]⟩ : ByteArray)))) w6) := ⟨.inr hI6⟩; have HB6 := Aside0.mk ((diff_Show.below_drewN HB.out nd).trans hb6); have HO6 : Aside0 (Lib.OthersKept 5 (some b) w w6) := ⟨Lib.OthersKept.trans (diff_Show.others_drewN HO.out nd) hk6⟩; clear hI6 hb6 hk6))
        go_roundw
        case rel => exact ⟨_, x + 1, rfl, by omega, by omega, HA2, HI6, HB6, HO6⟩
        case measure =>
          simp [intOf]
          omega
      · rw [if_neg hs] at hA
        cases hA
    · have hx : x = (l.length : Int) := by omega
      have hA := HA.out
      rw [hx, Int.toNat_natCast, List.drop_length] at hA
      have hA := Option.some.inj hA
      subst hA
      clear hx HA
      go_wp2
      go_end0
      exact ⟨rfl, HI.out, HB.out, HO.out⟩
theorem diff_Show.builder_grown {T e : TypeId} {B b : Nat} {bs : List Value} {w w1 : World} {row : Option Nat} (h : Lib.IsBuilderF T e B b bs w) (hg : w.grownBy w1 row) (hb : some b ≠ row) (hty : ∀ g, row = some g → ∃ cs q, w.heap[g]? = some (.cells cs q (0, 0)) ∧ q ≠ e) : Lib.IsBuilderF T e B b bs w1 := by
  have go : ∀ p, Lib.BuilderAtF T e B b p bs w → Lib.BuilderAtF T e B b p bs w1 := by
    rintro p h
    have hlt := h.lt
    obtain ⟨hB, v, hv, hown, hne⟩ := h
    refine ⟨hB, v, (hg.block b hlt hb).trans hv, hown.kept hg ?_, hne⟩
    rcases hown.2 with ⟨rfl, _⟩ | ⟨g, cap, cur, fz, rfl, hge, hh, _⟩
    · exact .inl rfl
    · refine .inr (fun e2 => ?_)
      obtain ⟨cs, q, hq, hqe⟩ := hty g (by rw [← e2]; rfl)
      rw [hh] at hq
      injection hq with hq
      injection hq with _ hq _
      exact hqe hq.symm
  exact h.elim (fun x => .inl (go _ x)) (fun x => .inr (go _ x))
theorem diff_Show.info : (Tryd.prog.info? 35).map (fun i => (i.zero, i.size, i.bytes)) = some (some (.agg #[(.int .i64 0), (.int .i64 0)]), 2, 16) := by kernel_rfl
theorem diff_Show.info9 : (Tryd.prog.info? 9).map (fun i => (i.zero, i.size, i.bytes)) = some (some (.string ⟨#[]⟩), 1, 16) := by kernel_rfl
theorem diff_Show.dropP (l : List (S35)) (x : Int) (h0 : 0 ≤ x) (h1 : x < (l.length : Int)) : l.drop x.toNat = rd_T35 l x :: l.drop (x + 1).toNat := by
  have hl : x.toNat < l.length := by omega
  rw [List.drop_eq_getElem_cons hl, show (x + 1).toNat = x.toNat + 1 by omega]
  unfold rd_T35
  simp [List.getD, hl]
theorem diff_Show.cut_at {w0 : World} {A : Option Addr} {c : Nat} {l : List ByteArray} {i j : Int} (hC : Kd.C Kd.string w0 A l.length l) (hc : l.length ≤ c) (h0 : 0 ≤ i) (h1 : i ≤ j) (h2 : j ≤ (l.length : Int)) :
    ∃ A' c', (∀ W : World, (Instr.slice 22 (.slice A l.length c) (some (.int .i64 i)) (some (.int .i64 j)) none).run Tryd.prog W = .ok (.slice A' (diff_Show.cut l i j).length c') W) ∧ Kd.C Kd.string w0 A' (diff_Show.cut l i j).length (diff_Show.cut l i j) ∧ (diff_Show.cut l i j).length ≤ c' := by
  obtain ⟨i0, hi0, _, hsz0, _⟩ := info_parts diff_Show.info9
  have h := cut_mid (P := Tryd.prog) 22 9 .i64 .i64 Tryd.underlying22 hi0 1 hsz0 A l.length c i j h0 h1 h2 hc
  have hr := Kd.C_mid (lo := i.toNat) (hi := j.toNat) (c := c) hC (by omega) (by omega) hc
  have hl : (diff_Show.cut l i j).length = j.toNat - i.toNat := by unfold diff_Show.cut; rw [List.length_drop, List.length_take]; omega
  refine ⟨_, c - i.toNat, fun W => ?_, hr, by rw [hl]; omega⟩
  rw [hl]
  exact h W
theorem diff_Show.builder_after {T : TypeId} {w1 W w3 : World} {base : Nat} {ok ok2 : Nat → Prop} {v : Value} {bs : List Value} {L : List (S35)} (hR : Kd.R k35 35 w1 base ok v L) (hRW : Kd.R k35 35 W base ok2 v L) (hI : Lib.IsBuilderF T 5 w1.heap.size w1.heap.size bs W) (hg : W.grownBy w3 v.ownBlock) : Lib.IsBuilderF T 5 w1.heap.size w1.heap.size bs w3 := by
  obtain ⟨inner, ho⟩ := Kd.R_own hR
  obtain ⟨inner2, ho2⟩ := Kd.R_own hRW
  refine diff_Show.builder_grown hI hg (fun e => ?_) (fun g hgv => ?_)
  · have := own_lt ho _ e.symm
    omega
  · obtain ⟨cells, hc⟩ := own_typed ho2 g hgv
    exact ⟨cells, _, hc, by decide⟩
theorem diff_Show.cells_kept {w w1 : World} {g b : Nat} {P0 P1 : Int} (h : w.heap[g]? = some (.cells #[.int .i64 P0, .int .i64 P1] 35 (0, 0))) (hk : Lib.OthersKept 5 (some b) w w1) (hne : g ≠ b) : w1.heap[g]? = some (.cells #[.int .i64 P0, .int .i64 P1] 35 (0, 0)) := by
  rw [hk g _ h (by simp; exact hne) (by simp)]
theorem diff_Show.row_kept {w w1 : World} {base b : Nat} {ok : Nat → Prop} {v : Value} {L : List (S35)} (h : Kd.R k35 35 w base ok v L) (hk : Lib.OthersKept 5 (some b) w w1) (hok : ∀ g, ok g → g ≠ b) : Kd.R k35 35 w1 base ok v L := by
  refine Kd.R_mono (Kd.R_move (Kd.R_bound h) (fun g hg => ?_)) (fun _ hg => hg.1)
  obtain ⟨h1, h2, h3, q, hq, cells, hc⟩ := hg
  have hq2 : q = 35 := by
    rcases List.mem_cons.mp hq with rfl | hq
    · rfl
    · exact absurd hq (by simp [k35, Kd.iso, Kd.pair, Kd.int, Kd.scalar])
  subst hq2
  rw [hk g _ hc (by simp; exact hok g h1) (by simp)]
  exact hc.symm
theorem diff_Show.step {w wa wb : World} {b g q3 : Nat} {A3 : Option Addr} {P0 P1 : Int} {s : ByteArray} {ML : List (S35)} (hI : Lib.IsBuilderF 50 5 b b (Lib.strCells s) wb) (hb : Below b wa wb) (hk : Lib.OthersKept 5 (some b) wa wb) (HB : Below w.heap.size w wa) (hwb : w.heap.size ≤ b) (hz : b < wa.heap.size) (hne : g ≠ b)
    (BK : wa.heap[g]? = some (.cells #[.int .i64 P0, .int .i64 P1] 35 (0, 0))) (HR : Kd.R k35 35 wa w.heap.size (fun k_ => k_ ≠ b) (.slice A3 ML.length q3) ML) :
    Aside0 (Lib.IsBuilderF 50 5 b b (Lib.strCells s) wb) ∧ Aside0 (Below w.heap.size w wb) ∧ Aside0 (b < wb.heap.size) ∧ Aside0 (wb.heap[g]? = some (.cells #[.int .i64 P0, .int .i64 P1] 35 (0, 0))) ∧ Aside0 (Kd.R k35 35 wb w.heap.size (fun k_ => k_ ≠ b) (.slice A3 ML.length q3) ML) ∧ wb.cell? ⟨g, 0, none⟩ = some (.int .i64 P0) ∧ wb.cell? ⟨g, 1, none⟩ = some (.int .i64 P1) := by
  have BK2 := diff_Show.cells_kept BK hk hne
  exact ⟨⟨hI⟩, ⟨HB.trans (hb.mono hwb)⟩, ⟨Nat.lt_of_lt_of_le hz hb.size⟩, ⟨BK2⟩, ⟨diff_Show.row_kept HR hk (fun _ h => h)⟩, (blk_cell BK2 0).trans rfl, (blk_cell BK2 1).trans rfl⟩
set_option maxHeartbeats 4000000 in
set_option maxRecDepth 100000 in
theorem diff_Show.calls (k : Nat) (A0 : Option Addr) (c0 : Nat) (l0 : List ByteArray) (A1 : Option Addr) (c1 : Nat) (l1 : List ByteArray) (r1 : ByteArray) (r2 : Int) (w : World) (hr0 : Kd.C Kd.string w A0 l0.length l0) (hc0 : l0.length ≤ c0) (hr1 : Kd.C Kd.string w A1 l1.length l1) (hc1 : l1.length ≤ c1) (h : diff_Show.f k l0 l1 = some (r1, r2)) :
    Calls Tryd.prog 16 #[.slice A0 l0.length c0, .slice A1 l1.length c1] w fun e w' => e = .returned (.tuple #[.string r1, .int .i64 r2]) ∧ Below w.heap.size w w' := by
  have hu := Tryd.underlying35
  have HR0 := Aside0.mk hr0
  have HC0 := Aside0.mk hc0
  have HR1 := Aside0.mk hr1
  have HC1 := Aside0.mk hc1
  obtain ⟨⟨L, e⟩, hp, h⟩ := Option.bind_eq_some_iff.mp h
  have P := Aside0.mk hp
  clear hr0 hc0 hr1 hc1 hp
  dsimp only at h
  have hmf : ∀ (fn : Fn) (first cap : Array Value) (w : World), (Instr.makeFunc fn first cap).run Tryd.prog w = .ok (.func fn first cap) w := fun _ _ _ _ => rfl
  by_cases c0 : e = 0
  · rw [if_pos c0] at h
    subst c0
    by_cases cl : L.length < 8796093022208 ∧ l0.length ≤ 1000000 ∧ l1.length ≤ 1000000
    · rw [if_pos cl] at h
      obtain ⟨s, hs, h⟩ := Option.bind_eq_some_iff.mp h
      have h := Option.some.inj h
      obtain ⟨rfl, rfl⟩ := Prod.mk.injEq .. ▸ h
      have G := Aside0.mk hs
      have LM := Aside0.mk cl.1
      have HL0 := Aside0.mk (show (l0.length : Int) ≤ 1000000 by have := cl.2.1; omega)
      have HL1 := Aside0.mk (show (l1.length : Int) ≤ 1000000 by have := cl.2.2; omega)
      clear hs h cl
      have HB := Aside0.mk (Below.refl w.heap.size w)
      go_enter Tryd.func16, Tryd.ntmps16
      go_wp2_with (first
        | (go_at_call 12; refine (diff_Pairs.calls k A0 _ l0 A1 _ l1 L 0 _ HR0.out HC0.out HR1.out HC1.out P.out).mono ?_; rintro e w1 ⟨v1, rfl, hR1, hb1⟩; obtain ⟨A2, q2, e2⟩ := Kd.R_slice hR1; subst e2; have HR2 := Aside0.mk hR1; have HB2 := Aside0.mk hb1; clear hR1 hb1)
        | ((with_reducible refine gate_builtin (b := .append) (xs := #[.tmp 24, .tmp 30]) rfl ?_); at_builtin; (refine Kd.R_append k35 (w0 := w) w.heap.size rfl (.tmp 24) (.tmp 30) 27 35 (.agg #[(.int .i64 0), (.int .i64 0)]) 16 rfl Tryd.underlying27 diff_Show.info rfl (by decide) (by omega) (.slice A2 L.length q2) L (⟨(l0.length : Int), (l1.length : Int)⟩ : S35) [.int .i64 (l0.length : Int), .int .i64 (l1.length : Int)] (fun k_ => k_ ≠ w1.heap.size) (fun _ => False) rfl ?aX ?aP (fun _ hk => hk.elim) ?aF ?aO ?aB ?aS ?aL ?_; (case aX => (show Value.slice (some ⟨w1.heap.size + 1, 0, none⟩) 1 1 = _; simp)); (case aP => exact k35_mkM _ _ _ (⟨(l0.length : Int), (l1.length : Int)⟩ : S35)); (case aF => intro k_ hk_; have := hk_; simp at this; omega); (case aO => (with_reducible repeat (first | apply Kd.R_alloc)); exact Kd.R_mono (Kd.R_bound HR2.out) (fun k_ hk_ => Nat.ne_of_lt hk_.2.2.1)); (case aB => repeat (first | (with_reducible first | exact HB2.out | apply below_alloc) | exact HB2.out)); (case aS => refine below_size ?_; repeat (first | (with_reducible first | exact HB2.out | apply below_alloc) | exact HB2.out)); (case aL => have := LM.out; omega)); (intro v3 w3 ho hb hg hat; obtain ⟨ML, hM⟩ : ∃ M_, M_ = L ++ [(⟨(l0.length : Int), (l1.length : Int)⟩ : S35)] := ⟨_, rfl⟩; rw [← hM] at ho; have HM := Aside0.mk hM; clear hM; have HI3 : Aside0 (Lib.IsBuilderF 50 5 w1.heap.size w1.heap.size (Lib.strCells (⟨#[]⟩ : ByteArray)) w3) := ⟨diff_Show.builder_after HR2.out (Kd.R_alloc HR2.out _) (Lib.IsBuilderF.of (Lib.fresh_isBuilder 50 5 w1)) hg⟩; have HZ3 := Aside0.mk (Nat.le_trans (below_size (below_alloc (Below.refl w1.heap.size w1) _)) hg.size); obtain ⟨A3, q3, e3⟩ := Kd.R_slice ho; subst e3; have HR3 := Aside0.mk ho; have HB3 := Aside0.mk hb; clear ho hb hg hat)))
      have G2 : Aside0 (diff_Show.go l0 l1 (ML.drop (0 : Int).toNat) 0 0 (⟨#[]⟩ : ByteArray) = some s) := ⟨by rw [HM.out]; exact G.out⟩
      have HWb := Aside0.mk HB2.out.size
      have HLM := Aside0.mk (show (ML.length : Int) ≤ 9223372036854775806 by have := LM.out; rw [HM.out, List.length_append, List.length_singleton]; omega)
      clear G HM HR2 HB2 P
      go_loopw [10, 11, 33] (fun v10 v11 v33 wr => ∃ (t : ByteArray) (x i j : Int), v10 = .int .i64 i ∧ v11 = .int .i64 j ∧ v33 = .int .i64 x ∧ 0 ≤ x ∧ x ≤ (ML.length : Int) ∧ Aside0 (diff_Show.go l0 l1 (ML.drop x.toNat) i j t = some s) ∧ Aside0 (Lib.IsBuilderF 50 5 w1.heap.size w1.heap.size (Lib.strCells t) wr) ∧ Aside0 (Below w.heap.size w wr) ∧ Aside0 (Kd.R k35 35 wr w.heap.size (fun k_ => k_ ≠ w1.heap.size) (.slice A3 ML.length q3) ML) ∧ Aside0 (w1.heap.size < wr.heap.size)) (fun _ _ v33 _ => ML.length - (intOf v33).toNat)
      case atStart => exact ⟨_, 0, 0, 0, rfl, rfl, rfl, by omega, by omega, G2, HI3, HB3, HR3, ⟨by rcases HI3.out with h | h <;> exact h.lt⟩⟩
      case round =>
        obtain ⟨t, x, i, j, rfl, rfl, rfl, h0, h1, HA, HI, HB, HR, HZ⟩ := hrel
        clear G2 HI3 HB3 HR3 HZ3
        have hlm := HLM.out
        by_cases hlt : x < (ML.length : Int)
        · have hA := HA.out
          rw [diff_Show.dropP ML x h0 hlt] at hA
          obtain ⟨ad, e, hx0, hx1⟩ := at_T35 (Kd.R_reads' HR.out).2.2 x h0 hlt
          subst e
          obtain ⟨p, hp⟩ : ∃ q, rd_T35 ML x = q := ⟨_, rfl⟩
          rw [hp] at hA hx0 hx1
          obtain ⟨P0, P1⟩ := p
          dsimp only at hx0 hx1
          simp only [diff_Show.go] at hA
          by_cases hcn : 0 ≤ i ∧ i ≤ P0 ∧ P0 ≤ (l0.length : Int) ∧ 0 ≤ j ∧ j ≤ P1 ∧ P1 ≤ (l1.length : Int)
          · rw [if_pos hcn] at hA
            obtain ⟨s1, hs1, hA⟩ := Option.bind_eq_some_iff.mp hA
            obtain ⟨s2, hs2, hA⟩ := Option.bind_eq_some_iff.mp hA
            obtain ⟨n0, n1, n2, n3, n4, n5⟩ := hcn
            obtain ⟨B0, b0, hcut0, hC0, hb0⟩ := diff_Show.cut_at HR0.out HC0.out n0 n1 n2
            obtain ⟨B1, b1, hcut1, hC1, hb1⟩ := diff_Show.cut_at HR1.out HC1.out n3 n4 n5
            have m0 := HL0.out
            have m1 := HL1.out
            have e1 : IntKind.i64.wrap (P0 + 1) = P0 + 1 := IntWalk.i64_in _ (by omega)
            have e2 : IntKind.i64.wrap (P1 + 1) = P1 + 1 := IntWalk.i64_in _ (by omega)
            have S1 := Aside0.mk hs1
            have S2 := Aside0.mk hs2
            have K0 := Aside0.mk hC0
            have K1 := Aside0.mk hC1
            have J0 := Aside0.mk hb0
            have J1 := Aside0.mk hb1
            have hblk8 : (wr.alloc (.cells #[.int .i64 P0, .int .i64 P1] 35)).heap[wr.heap.size]? = some (.cells #[.int .i64 P0, .int .i64 P1] 35 (0, 0)) := heap_alloc_new wr _
            have BK8 := Aside0.mk hblk8
            have HB8 := Aside0.mk (below_alloc HB.out (.cells #[.int .i64 P0, .int .i64 P1] 35))
            have HZ8 := Aside0.mk (Nat.lt_of_lt_of_le HZ.out (below_size (below_alloc (Below.refl wr.heap.size wr) (.cells #[.int .i64 P0, .int .i64 P1] 35))))
            have HR8 := Aside0.mk (Kd.R_alloc HR.out (.cells #[.int .i64 P0, .int .i64 P1] 35))
            have HI8 := Aside0.mk (HI.out.alloc (.cells #[.int .i64 P0, .int .i64 P1] 35))
            have HG := Aside0.mk (Nat.ne_of_gt HZ.out)
            clear hs1 hs2 hC0 hC1 hb0 hb1 hblk8 HA hp
            by_cases c3 : P0 < (l0.length : Int)
            · rw [if_pos c3] at hA
              obtain ⟨s3, hs3, hA⟩ := Option.bind_eq_some_iff.mp hA
              obtain ⟨B2, b2, hcut2, hC2, hb2⟩ := diff_Show.cut_at HR0.out HC0.out (show 0 ≤ P0 by omega) (show P0 ≤ P0 + 1 by omega) (show P0 + 1 ≤ (l0.length : Int) by omega)
              have S3 := Aside0.mk hs3
              have K2 := Aside0.mk hC2
              have HA2 := Aside0.mk hA
              clear hs3 hC2 hA hb2
              go_wp2_with fail
              refine (diff_Show.put_calls (⟨#[45]⟩ : ByteArray) w1.heap.size w1.heap.size B0 b0 (diff_Show.cut l0 i P0) t s1 w (wr.alloc (.cells #[.int .i64 P0, .int .i64 P1] 35)) (by decide) K0.out HB8.out HI8.out HWb.out (Nat.le_of_lt HZ8.out) S1.out).mono ?_
              rintro e w9 ⟨rfl, hI9, hb9, hk9⟩
              obtain ⟨HI9, HB9, HZ9, BK9, HR9, hc90, hc91⟩ := diff_Show.step hI9 hb9 hk9 HB8.out HWb.out HZ8.out HG.out BK8.out HR8.out
              clear hI9 hb9 hk9
              go_wp2_with fail
              refine (diff_Show.put_calls (⟨#[43]⟩ : ByteArray) w1.heap.size w1.heap.size B1 b1 (diff_Show.cut l1 j P1) s1 s2 w w9 (by decide) K1.out HB9.out HI9.out HWb.out (Nat.le_of_lt HZ9.out) S2.out).mono ?_
              rintro e w10 ⟨rfl, hI10, hb10, hk10⟩
              obtain ⟨HI10, HB10, HZ10, BK10, HR10, hc100, hc101⟩ := diff_Show.step hI10 hb10 hk10 HB9.out HWb.out HZ9.out HG.out BK9.out HR9.out
              clear hI10 hb10 hk10
              go_wp2_with fail
              refine (diff_Show.put_calls (⟨#[32]⟩ : ByteArray) w1.heap.size w1.heap.size B2 b2 (diff_Show.cut l0 P0 (P0 + 1)) s2 s3 w w10 (by decide) K2.out HB10.out HI10.out HWb.out (Nat.le_of_lt HZ10.out) S3.out).mono ?_
              rintro e w11 ⟨rfl, hI11, hb11, hk11⟩
              obtain ⟨HI11, HB11, HZ11, BK11, HR11, hc110, hc111⟩ := diff_Show.step hI11 hb11 hk11 HB10.out HWb.out HZ10.out HG.out BK10.out HR10.out
              clear hI11 hb11 hk11
              go_wp2_with fail
              go_quiet (fail)
              go_wp2
              go_roundw
              case rel => exact ⟨_, x + 1, P0 + 1, P1 + 1, rfl, rfl, rfl, by omega, by omega, HA2, HI11, ⟨diff_Show.below_drewN HB11.out _⟩, HR11, HZ11⟩
              case measure =>
                simp [intOf]
                omega
            · rw [if_neg c3] at hA
              have HA2 := Aside0.mk hA
              clear hA
              go_wp2_with fail
              refine (diff_Show.put_calls (⟨#[45]⟩ : ByteArray) w1.heap.size w1.heap.size B0 b0 (diff_Show.cut l0 i P0) t s1 w (wr.alloc (.cells #[.int .i64 P0, .int .i64 P1] 35)) (by decide) K0.out HB8.out HI8.out HWb.out (Nat.le_of_lt HZ8.out) S1.out).mono ?_
              rintro e w9 ⟨rfl, hI9, hb9, hk9⟩
              obtain ⟨HI9, HB9, HZ9, BK9, HR9, hc90, hc91⟩ := diff_Show.step hI9 hb9 hk9 HB8.out HWb.out HZ8.out HG.out BK8.out HR8.out
              clear hI9 hb9 hk9
              go_wp2_with fail
              refine (diff_Show.put_calls (⟨#[43]⟩ : ByteArray) w1.heap.size w1.heap.size B1 b1 (diff_Show.cut l1 j P1) s1 s2 w w9 (by decide) K1.out HB9.out HI9.out HWb.out (Nat.le_of_lt HZ9.out) S2.out).mono ?_
              rintro e w10 ⟨rfl, hI10, hb10, hk10⟩
              obtain ⟨HI10, HB10, HZ10, BK10, HR10, hc100, hc101⟩ := diff_Show.step hI10 hb10 hk10 HB9.out HWb.out HZ9.out HG.out BK9.out HR9.out
              clear hI10 hb10 hk10
              go_wp2_with fail
              go_quiet (fail)
              go_wp2
              go_roundw
              case rel => exact ⟨_, x + 1, P0 + 1, P1 + 1, rfl, rfl, rfl, by omega, by omega, HA2, HI10, ⟨diff_Show.below_drewN HB10.out _⟩, HR10, HZ10⟩
              case measure =>
                simp [intOf]
                omega
          · rw [if_neg hcn] at hA
            cases hA
        · have hx : x = (ML.length : Int) := by omega
          have hA := HA.out
          rw [hx, Int.toNat_natCast, List.drop_length] at hA
          have hA := Option.some.inj hA
          subst hA
          clear hx HA
          have HZW := Aside0.mk (Nat.le_of_lt HZ.out)
          go_wp2_with (go_at_call 22; refine (Tryd.builder_String w1.heap.size w1.heap.size t.data.toList _ HI.out HZW.out).mono ?_; rintro e w2 ⟨rfl, -, hb2, -⟩; have HB2 := Aside0.mk hb2; clear hb2)
          go_ret2
          exact ⟨by simp, HB.out.trans (HB2.out.mono HWb.out)⟩
    · rw [if_neg cl] at h
      cases h
  · rw [if_neg c0] at h
    have h := Option.some.inj h
    obtain ⟨rfl, rfl⟩ := Prod.mk.injEq .. ▸ h
    have b0 : (e == 0) = false := beq_eq_false_iff_ne.mpr c0
    have b1 : (e != 0) = true := bne_iff_ne.mpr c0
    clear c0 h
    go_enter Tryd.func16, Tryd.ntmps16
    go_wp2_with (first
        | (go_at_call 12; refine (diff_Pairs.calls k A0 _ l0 A1 _ l1 L e _ HR0.out HC0.out HR1.out HC1.out P.out).mono ?_; rintro e w1 ⟨v1, rfl, hR1, hb1⟩; have HB2 := Aside0.mk hb1; clear hR1 hb1))
    go_ret2
    exact ⟨rfl, HB2.out⟩


end Go.Proofs.YtflogdjehghkpaaDoor.M
