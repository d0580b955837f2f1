/- The program's functions as plain functions, and that each call comes to what these tell; written by a program of this session, some contracts by hand. Conditions: none. -/
import Derived.Test.YtnapcfpecpgdbaaMx0
namespace Go.Proofs.Ytnapcfpecpgdbaa.M
open Go.RowKit Go.Proofs.YtnapcfpecpgdbaaW.PrintWords Go.Proofs.YtnapcfpecpgdbaaW.PrintLast Go.Proofs.YtnapcfpecpgdbaaW.PrintMore
attribute [local go_sem] max2_int min2_int max_two min_two max_three min_three max_four min_four   -- for this text's walks alone
set_option linter.unusedVariables false
set_option linter.unusedSimpArgs false

/-! ### code_Hex: function 39 (given by hand) -/
def code_Hex.digits : ByteArray := ⟨#[48, 49, 50, 51, 52, 53, 54, 55, 56, 57, 97, 98, 99, 100, 101, 102]⟩
def code_Hex.dg (n : Nat) : UInt8 := code_Hex.digits.data.toList.getD n 0
/-- Bytes as digits. -/
def code_Hex.out : List UInt8 → List UInt8
 | [] => []
 | c :: cs => code_Hex.dg (c.toNat / 16) :: code_Hex.dg (c.toNat % 16) :: code_Hex.out cs
def code_Hex.f (a0 : ByteArray) : Option ByteArray := if a0.size ≤ 1099511627776 then some ⟨(code_Hex.out a0.data.toList).toArray⟩ else none
theorem code_Hex.info : (Try.prog.info? 5).map (fun i => (i.zero, i.size, i.bytes)) = some (some (.int .u8 0), 1, 1) := by kernel_rfl
/-- A builder in block b that has these bytes, in a row that lies at B or above. -/
def code_Hex.Has (w : World) (B b : Nat) (p : Value) (l : List Int) : Prop := ∃ v, w.heap[b]? = some (.cells #[p, v] 83 (0, 0)) ∧ w.ownsRow B 5 1 v l.length (nums .u8 l)
/-- All below B is as it was, but block b. -/
def code_Hex.Kept (B b : Nat) (w w' : World) : Prop := Below b w w' ∧ ∀ k, k < B → k ≠ b → w'.heap[k]? = w.heap[k]?
theorem code_Hex.Kept.refl (B b : Nat) (w : World) : code_Hex.Kept B b w w := ⟨Below.refl _ _, fun _ _ _ => rfl⟩
theorem code_Hex.Kept.trans {B b : Nat} {a c d : World} (h : code_Hex.Kept B b a c) (k : code_Hex.Kept B b c d) : code_Hex.Kept B b a d := ⟨h.1.trans k.1, fun i hi hb => (k.2 i hi hb).trans (h.2 i hi hb)⟩
theorem code_Hex.set (w : World) (b i : Nat) (v : Value) (k : Nat) (hk : k ≠ b) : (w.setCell ⟨b, i, none⟩ v).heap[k]? = w.heap[k]? := Below.heap_setCell _ _ _ _ hk
theorem code_Hex.kept_set (B b i : Nat) (w : World) (v : Value) : code_Hex.Kept B b w (w.setCell ⟨b, i, none⟩ v) := ⟨⟨rfl, rfl, rfl, by simp, fun k hk => code_Hex.set w b i v k (by omega)⟩, fun k _ hb => code_Hex.set w b i v k hb⟩
theorem code_Hex.copyCheck (B b : Nat) (l : List Int) (w : World) (hbB : b < B) (h : code_Hex.Has w B b (.pointer none) l ∨ code_Hex.Has w B b (.pointer (some ⟨b, 0, none⟩)) l) :
 Calls Try.prog 64 #[.pointer (some ⟨b, 0, none⟩)] w fun e w' => e = .returned (.tuple #[]) ∧ code_Hex.Has w' B b (.pointer (some ⟨b, 0, none⟩)) l ∧ code_Hex.Kept B b w w' ∧ w'.heap.size = w.heap.size := by
 rcases h with ⟨v, hb, ho⟩ | ⟨v, hb, ho⟩
 · have c0 : w.cell? ⟨b, 0, none⟩ = some (.pointer none) := by rw [Lib.cell_of_heap hb]; rfl
   refine (Any.Builder_copyCheck_fresh { Try.lays167 with } Try.Builder_Extra_167.toX72 b w c0 (by simp [World.shape?, hb]; rfl) (Lib.frozen_of_heap hb 0)).mono ?_
   rintro e w' ⟨rfl, rfl⟩
   refine ⟨rfl, ⟨v, ?_, own_setCell ho ?_ _⟩, code_Hex.kept_set _ _ _ _ _, by simp⟩
   · simp [World.setCell, Array.getElem?_modify, hb]
   · intro he
     have := own_base ho b he.symm
     omega
 · have c0 : w.cell? ⟨b, 0, none⟩ = some (.pointer (some ⟨b, 0, none⟩)) := by rw [Lib.cell_of_heap hb]; rfl
   refine (Any.Builder_copyCheck_used { Try.lays167 with } Try.Builder_Extra_167.toX72 b w c0).mono ?_
   rintro e w' ⟨rfl, rfl⟩
   exact ⟨rfl, ⟨v, hb, ho⟩, code_Hex.Kept.refl _ _ _, rfl⟩
set_option maxHeartbeats 4000000 in
set_option maxRecDepth 100000 in
theorem code_Hex.write (B b : Nat) (l : List Int) (c : Int) (w : World) (hbB : b < B) (hBw : B ≤ w.heap.size) (hl : l.length ≤ 8796093022208) (h : code_Hex.Has w B b (.pointer none) l ∨ code_Hex.Has w B b (.pointer (some ⟨b, 0, none⟩)) l) :
 Calls Try.prog 54 #[.pointer (some ⟨b, 0, none⟩), .int .u8 c] w fun e w' => e = .returned .nilIface ∧ code_Hex.Has w' B b (.pointer (some ⟨b, 0, none⟩)) (l ++ [c]) ∧ code_Hex.Kept B b w w' ∧ w.heap.size ≤ w'.heap.size := by
 have HH := Aside0.mk h
 have HL := Aside0.mk hl
 clear h hl
 go_enter Try.func54, Try.ntmps54
 go_wp2_with (go_at_call 64; refine (code_Hex.copyCheck B b l _ hbB HH.out).mono ?_)
 rintro e w1 ⟨rfl, ⟨v, hbk, hown⟩, hk1, hz1⟩
 have c1 : w1.cell? ⟨b, 1, none⟩ = some v := by rw [Lib.cell_of_heap hbk]; rfl
 have HBK := Aside0.mk hbk
 have HO := Aside0.mk hown
 have HK1 := Aside0.mk hk1
 have hz2 : B ≤ w1.heap.size := by omega
 have HZ := Aside0.mk hz1
 clear hbk hown hk1 hz1
 go_wp2_with ((with_reducible refine gate_builtin (b := .append) (xs := #[.tmp 11, .tmp 13]) rfl ?_); go_must (at_builtin; refine print_append_num (w0 := w1) (W := w1) B rfl (.tmp 11) (.tmp 13) 31 5 .u8 1 rfl Try.underlying31 code_Hex.info (by decide) v l c rfl rfl HO.out (Below.refl _ _) hz2 (by have := HL.out; omega) ?_; intro v4 w4 ho hb hg hat; obtain ⟨A4, c4, rfl⟩ := own_slice ho; have HO4 := Aside0.mk ho; have HB4 := Aside0.mk hb; have hb4 := (hb.block b hbB).trans HBK.out; have d1 : w4.cell? ⟨b, 1, none⟩ = some v := (by rw [Lib.cell_of_heap hb4]; rfl); have f1 : w4.frozen? ⟨b, 1, none⟩ = false := Lib.frozen_of_heap hb4 1; have HB5 := Aside0.mk hb4; clear ho hb hg hat hb4))
 go_ret
 refine ⟨rfl, ⟨.slice A4 (l ++ [c]).length c4, ?_, own_setCell HO4.out ?_ _⟩, HK1.out.trans (code_Hex.Kept.trans ⟨HB4.out.mono (Nat.le_of_lt hbB), fun k hk _ => HB4.out.block k hk⟩ (code_Hex.kept_set _ _ _ _ _)), ?_⟩
 · simp [World.setCell, Array.getElem?_modify, HB5.out]
 · intro he
   have := own_base HO4.out b he.symm
   omega
 · have h1 := HB4.out.size
   have h2 := HZ.out
   simp
   omega
theorem code_Hex.out_length : ∀ l : List UInt8, (code_Hex.out l).length = 2 * l.length
 | [] => rfl
 | c :: cs => by rw [code_Hex.out, List.length_cons, List.length_cons, code_Hex.out_length cs, List.length_cons]; omega
theorem code_Hex.out_append : ∀ a b : List UInt8, code_Hex.out (a ++ b) = code_Hex.out a ++ code_Hex.out b
 | [], b => rfl
 | c :: cs, b => by rw [List.cons_append, code_Hex.out, code_Hex.out, code_Hex.out_append cs b]; rfl
def code_Hex.ints (l : List UInt8) : List Int := l.map fun b => (b.toNat : Int)
theorem code_Hex.dg_eq (n : Nat) (hn : n < (⟨#[48, 49, 50, 51, 52, 53, 54, 55, 56, 57, 97, 98, 99, 100, 101, 102]⟩ : ByteArray).size) : (⟨#[48, 49, 50, 51, 52, 53, 54, 55, 56, 57, 97, 98, 99, 100, 101, 102]⟩ : ByteArray)[n]'hn = code_Hex.dg n := by
 match n, hn with
 | 0, _ => exact rfl
 | 1, _ => exact rfl
 | 2, _ => exact rfl
 | 3, _ => exact rfl
 | 4, _ => exact rfl
 | 5, _ => exact rfl
 | 6, _ => exact rfl
 | 7, _ => exact rfl
 | 8, _ => exact rfl
 | 9, _ => exact rfl
 | 10, _ => exact rfl
 | 11, _ => exact rfl
 | 12, _ => exact rfl
 | 13, _ => exact rfl
 | 14, _ => exact rfl
 | 15, _ => exact rfl
 | n + 16, h => exact absurd h (by show ¬ n + 16 < 16; omega)
theorem code_Hex.index (w : World) (n : Nat) (hn : n < 16) : Sem.run Try.prog (Instr.index 9 (.string ⟨#[48, 49, 50, 51, 52, 53, 54, 55, 56, 57, 97, 98, 99, 100, 101, 102]⟩) (.int .u8 (n : Int))) w = .ok (.int .u8 ((code_Hex.dg n).toNat : Int)) w := by
 have hu := Try.underlying9
 have h0 : (0 : Int) ≤ (n : Int) := Int.natCast_nonneg n
 have h1 : (n : Int) < 16 := by omega
 unfold Instr.index
 go_simp
 exact congrArg (fun u : UInt8 => (u.toNat : Int)) (code_Hex.dg_eq n hn)
set_option maxHeartbeats 4000000 in
set_option maxRecDepth 100000 in
theorem code_Hex.calls (a0 : ByteArray) (r : ByteArray) (w : World) (h : code_Hex.f a0 = some r) :
 Calls Try.prog 39 #[.string a0] w fun e w' => e = .returned (.string r) ∧ Below w.heap.size w w' := by
 unfold code_Hex.f at h
 by_cases hs : a0.size ≤ 1099511627776
 ·
  rw [if_pos hs] at h
  obtain rfl := Option.some.inj h
  have HS := Aside0.mk hs
  have kb := fun W => print_bytes (P := Try.prog) 9 31 5 Try.underlying9 Try.underlying31 Try.underlying5 a0 W
  obtain ⟨W0, hW0⟩ : ∃ W0, W0 = w.alloc (.cells #[.pointer none, .slice none 0 0] 83) := ⟨_, rfl⟩
  have hz0 : W0.heap.size = w.heap.size + 1 := by rw [hW0]; simp
  have hb0 : W0.heap[w.heap.size]? = some (.cells #[.pointer none, .slice none 0 0] 83 (0, 0)) := by rw [hW0]; exact heap_alloc_new w _
  have hbw : Below w.heap.size w W0 := by rw [hW0]; exact below_alloc (Below.refl _ _) _
  have RB := bytes_reads W0 5 a0 (by omega)
  rw [hz0] at RB
  have RB := Aside0.mk RB
  have hb1 : (Lib.bytesWorld W0 5 a0).heap[w.heap.size]? = some (.cells #[.pointer none, .slice none 0 0] 83 (0, 0)) := (Lib.bytesWorld_at_old W0 5 a0 _ (by omega)).trans hb0
  have HB1 := Aside0.mk hb1
  have BB := Aside0.mk (bytes_below hbw (by omega) 5 a0)
  have SB := Aside0.mk (show (Lib.bytesWorld W0 5 a0).heap.size = w.heap.size + 1 + 1 by rw [Lib.bytesWorld_size, hz0])
  clear h hs hz0 hb0 hbw hb1
  go_enter Try.func39, Try.ntmps39
  go_wp2_with fail
  clear kb
  rw [← hW0]
  clear hW0
  generalize Lib.bytesWorld W0 5 a0 = W1 at *
  have HI : code_Hex.Has W1 (w.heap.size + 1 + 1) w.heap.size (.pointer none) (code_Hex.ints (code_Hex.out (a0.data.toList.take 0))) := ⟨_, HB1.out, own_nil _ _ _ _⟩
  have HI := Aside0.mk HI
  generalize grownCap W0 a0.size 0 5 = gc at *
  generalize hbz : w.heap.size = b at *
  go_loopw [9] (fun u9 wr => ∃ (j : Nat) (p : Value), u9 = .int .i64 j ∧ j ≤ a0.size ∧ Aside0 ((p = .pointer none ∨ p = .pointer (some ⟨b, 0, none⟩)) ∧ code_Hex.Has wr (b + 1 + 1) b p (code_Hex.ints (code_Hex.out (a0.data.toList.take j)))) ∧ Aside0 (code_Hex.Kept (b + 1 + 1) b W1 wr) ∧ Aside0 (b + 1 + 1 ≤ wr.heap.size)) (fun u9 _ => a0.size - (intOf u9).toNat)
  case atStart => exact ⟨0, _, rfl, by omega, ⟨.inl rfl, HI.out⟩, ⟨code_Hex.Kept.refl _ _ _⟩, ⟨by rw [SB.out]; exact Nat.le_refl _⟩⟩
  case round =>
   obtain ⟨j, p, rfl, hj, HP, HK, HZ⟩ := hrel
   by_cases hlt : j < a0.size
   ·
    have hltI : (j : Int) < (a0.size : Int) := by omega
    obtain ⟨ad, ead, hcell⟩ := RB.out.2.2 (by omega)
    cases ead
    have hc := hcell j hlt
    rw [add_plain] at hc
    clear hcell
    replace hc : wr.cell? ⟨b + 1, j, none⟩ = _ := (World.cell?_of_block (w := W1) (HK.out.2 (b + 1) (by omega) (by omega))).trans hc
    have hlen : j < a0.data.toList.length := by rw [data_length]; exact hlt
    have hx : (bytesOf a0).getD j 0 = ((a0.data.toList[j].toNat : Nat) : Int) := by
     rw [List.getD_eq_getElem?_getD, bytesOf, List.getElem?_map, List.getElem?_eq_getElem hlen]
     rfl
    have htk : a0.data.toList.take (j + 1) = a0.data.toList.take j ++ [a0.data.toList[j]] := (List.take_append_getElem hlen).symm
    have hol : (code_Hex.ints (code_Hex.out (a0.data.toList.take j))).length = 2 * j := by
     rw [code_Hex.ints, List.length_map, code_Hex.out_length, List.length_take, Nat.min_eq_left (Nat.le_of_lt hlen)]
    rw [hx] at hc
    have HT := Aside0.mk htk
    have OL := Aside0.mk hol
    clear hx htk hol
    generalize a0.data.toList[j] = c at *
    have hcl : c.toNat < 256 := c.toNat_lt
    have hq : Int.tdiv (c.toNat : Int) 16 = ((c.toNat / 16 : Nat) : Int) := rfl
    have hr : Int.tmod (c.toNat : Int) 16 = ((c.toNat % 16 : Nat) : Int) := rfl
    have hq0 : code_Hex.Has wr (b + 1 + 1) b (.pointer none) (code_Hex.ints (code_Hex.out (a0.data.toList.take j))) ∨ code_Hex.Has wr (b + 1 + 1) b (.pointer (some ⟨b, 0, none⟩)) (code_Hex.ints (code_Hex.out (a0.data.toList.take j))) := by
     rcases HP.out with ⟨e | e, h⟩
     · rw [e] at h
       exact .inl h
     · rw [e] at h
       exact .inr h
    have HQ := Aside0.mk hq0
    have HWJ : Aside0 (Go.RowKit.wrap64 ((j : Int) + 1) = (j : Int) + 1) := ⟨(i64_w _).symm.trans (IntWalk.i64_in _ (by have := HS.out; omega))⟩
    have hd1 : c.toNat / 16 < 16 := by omega
    have hd2 : c.toNat % 16 < 16 := by omega
    have hot : code_Hex.ints (code_Hex.out (a0.data.toList.take (j + 1))) = code_Hex.ints (code_Hex.out (a0.data.toList.take j)) ++ [((code_Hex.dg (c.toNat / 16)).toNat : Int)] ++ [((code_Hex.dg (c.toNat % 16)).toNat : Int)] := by
     rw [HT.out, code_Hex.out_append, code_Hex.ints, List.map_append, List.append_assoc]
     rfl
    have HT := Aside0.mk hot
    clear hq0 hot
    go_upto_region 6 with (go_at_call 54; rw [code_Hex.dg_eq (c.toNat / 16) hd1]; go_must (refine (code_Hex.write (b + 1 + 1) b _ ((code_Hex.dg (c.toNat / 16)).toNat : Int) wr (by omega) HZ.out (by rw [OL.out]; have := HS.out; omega) HQ.out).mono ?_; rintro e w1 ⟨rfl, hH1, hK1, hZ1⟩; have H1 := Aside0.mk hH1; have K1 := Aside0.mk hK1; have Z1 := Aside0.mk (Nat.le_trans HZ.out hZ1); clear hH1 hK1 hZ1))
    go_wp2_with (go_at_call 54; rw [code_Hex.dg_eq (c.toNat % 16) hd2]; go_must (refine (code_Hex.write (b + 1 + 1) b _ ((code_Hex.dg (c.toNat % 16)).toNat : Int) w1 (by omega) Z1.out (by rw [List.length_append, OL.out]; have := HS.out; show 2 * j + 1 ≤ _; omega) (.inr H1.out)).mono ?_; rintro e w2 ⟨rfl, hH2, hK2, hZ2⟩; have H2 := Aside0.mk hH2; have K2 := Aside0.mk hK2; have Z2 := Aside0.mk (Nat.le_trans Z1.out hZ2); clear hH2 hK2 hZ2))
    go_roundw
    case rel => exact ⟨j + 1, _, by rw [HWJ.out]; rfl, by omega, ⟨.inr rfl, by rw [HT.out]; exact H2.out⟩, ⟨(HK.out.trans K1.out).trans K2.out⟩, Z2⟩
    case measure =>
     simp only [HWJ.out]
     simp [intOf]
     omega
   ·
    obtain rfl : j = a0.size := by omega
    have hall : a0.data.toList.take a0.size = a0.data.toList := List.take_of_length_le (by rw [data_length]; exact Nat.le_refl _)
    have hI : Lib.IsBuilderF 83 5 b b (Lib.byteCells (code_Hex.out a0.data.toList)) wr := by
     have hcell : nums .u8 (code_Hex.ints (code_Hex.out a0.data.toList)) = Lib.byteCells (code_Hex.out a0.data.toList) := by simp [nums, code_Hex.ints, Lib.byteCells]
     have hlen : (Lib.byteCells (code_Hex.out a0.data.toList)).length = (code_Hex.ints (code_Hex.out a0.data.toList)).length := by simp [code_Hex.ints, Lib.byteCells]
     have go : ∀ p, code_Hex.Has wr (b + 1 + 1) b p (code_Hex.ints (code_Hex.out a0.data.toList)) → Lib.BuilderAtF 83 5 b b p (Lib.byteCells (code_Hex.out a0.data.toList)) wr := by
      rintro p ⟨v, hv, ho⟩
      rw [hcell] at ho
      refine ⟨Nat.le_refl _, v, hv, ?_, fun he => by have := own_base ho b he; omega⟩
      rw [hlen]
      have h2 := World.ownsRowF_of ho
      rcases h2 with ⟨h3, h4 | ⟨g, cap, cur, fz, h5, h6, h7⟩⟩
      · exact ⟨h3, .inl h4⟩
      · exact ⟨h3, .inr ⟨g, cap, cur, fz, h5, by omega, h7⟩⟩
     rcases HP.out with ⟨e | e, h⟩
     · rw [e, hall] at h
       exact .inl (go _ h)
     · rw [e, hall] at h
       exact .inr (go _ h)
    have HI2 := Aside0.mk hI
    clear hI hall
    go_wp2_with (go_at_call 55; refine (Try.builder_String b b (code_Hex.out a0.data.toList) wr HI2.out (by have := HZ.out; omega)).mono ?_; rintro e w2 ⟨rfl, -, hb2, -⟩)
    go_ret
    exact ⟨rfl, by rw [hbz]; exact (BB.out.trans HK.out.1).trans hb2⟩
 · rw [if_neg hs] at h
   cases h


end Go.Proofs.Ytnapcfpecpgdbaa.M
