/- The program's functions as plain functions, and that each call comes to what these tell; written by a program of this session, some contracts by hand. Conditions: none. -/
import Derived.Test.YtnapcfpecpgdbaaDoorMx0
import Derived.Test.YtnapcfpecpgdbaaDoorMx2
import Derived.Test.YtnapcfpecpgdbaaDoorMx8
namespace Go.Proofs.YtnapcfpecpgdbaaDoor.M
open Go.RowKit Go.Proofs.YtnapcfpecpgdbaaDoorW.PrintWords Go.Proofs.YtnapcfpecpgdbaaDoorW.PrintLast Go.Proofs.YtnapcfpecpgdbaaDoorW.PrintMore
attribute [local go_sem] max2_int min2_int max_two min_two max_three min_three max_four min_four   -- for this text's walks alone
set_option linter.unusedVariables false
set_option linter.unusedSimpArgs false

/-! ### code_Hex: function 33 (given by hand) -/
def code_Hex.digits : ByteArray := ⟨#[48, 49, 50, 51, 52, 53, 54, 55, 56, 57, 97, 98, 99, 100, 101, 102]⟩
def code_Hex.dg (n : Nat) : UInt8 := code_Hex.digits.data.toList.getD n 0
/-- Bytes as digits. -/
def code_Hex.out : List UInt8 → List UInt8
 | [] => []
 | c :: cs => code_Hex.dg (c.toNat / 16) :: code_Hex.dg (c.toNat % 16) :: code_Hex.out cs
def code_Hex.f (a0 : ByteArray) : Option ByteArray := if a0.size ≤ 1099511627776 then some ⟨(code_Hex.out a0.data.toList).toArray⟩ else none
theorem code_Hex.info : (Tryd.prog.info? 5).map (fun i => (i.zero, i.size, i.bytes)) = some (some (.int .u8 0), 1, 1) := by kernel_rfl
/-- A builder in block b that has these bytes, in a row that lies at B or above. -/
def code_Hex.Has (w : World) (B b : Nat) (p : Value) (l : List Int) : Prop := ∃ v, w.heap[b]? = some (.cells #[p, v] 98 (0, 0)) ∧ w.ownsRow B 5 1 v l.length (nums .u8 l)
/-- All below B is as it was, but block b. -/
def code_Hex.Kept (B b : Nat) (w w' : World) : Prop := Below b w w' ∧ ∀ k, k < B → k ≠ b → w'.heap[k]? = w.heap[k]?
theorem code_Hex.Kept.refl (B b : Nat) (w : World) : code_Hex.Kept B b w w := ⟨Below.refl _ _, fun _ _ _ => rfl⟩
theorem code_Hex.Kept.trans {B b : Nat} {a c d : World} (h : code_Hex.Kept B b a c) (k : code_Hex.Kept B b c d) : code_Hex.Kept B b a d := ⟨h.1.trans k.1, fun i hi hb => (k.2 i hi hb).trans (h.2 i hi hb)⟩
theorem code_Hex.set (w : World) (b i : Nat) (v : Value) (k : Nat) (hk : k ≠ b) : (w.setCell ⟨b, i, none⟩ v).heap[k]? = w.heap[k]? := Below.heap_setCell _ _ _ _ hk
theorem code_Hex.kept_set (B b i : Nat) (w : World) (v : Value) : code_Hex.Kept B b w (w.setCell ⟨b, i, none⟩ v) := ⟨⟨rfl, rfl, rfl, by simp, fun k hk => code_Hex.set w b i v k (by omega)⟩, fun k _ hb => code_Hex.set w b i v k hb⟩
theorem code_Hex.copyCheck (B b : Nat) (l : List Int) (w : World) (hbB : b < B) (h : code_Hex.Has w B b (.pointer none) l ∨ code_Hex.Has w B b (.pointer (some ⟨b, 0, none⟩)) l) :
 Calls Tryd.prog 77 #[.pointer (some ⟨b, 0, none⟩)] w fun e w' => e = .returned (.tuple #[]) ∧ code_Hex.Has w' B b (.pointer (some ⟨b, 0, none⟩)) l ∧ code_Hex.Kept B b w w' ∧ w'.heap.size = w.heap.size := by
 rcases h with ⟨v, hb, ho⟩ | ⟨v, hb, ho⟩
 · have c0 : w.cell? ⟨b, 0, none⟩ = some (.pointer none) := by rw [Lib.cell_of_heap hb]; rfl
   refine (Any.Builder_copyCheck_fresh { Tryd.lays167 with } Tryd.Builder_Extra_167.toX72 b w c0 (by simp [World.shape?, hb]; rfl) (Lib.frozen_of_heap hb 0)).mono ?_
   rintro e w' ⟨rfl, rfl⟩
   refine ⟨rfl, ⟨v, ?_, own_setCell ho ?_ _⟩, code_Hex.kept_set _ _ _ _ _, by simp⟩
   · simp [World.setCell, Array.getElem?_modify, hb]
   · intro he
     have := own_base ho b he.symm
     omega
 · have c0 : w.cell? ⟨b, 0, none⟩ = some (.pointer (some ⟨b, 0, none⟩)) := by rw [Lib.cell_of_heap hb]; rfl
   refine (Any.Builder_copyCheck_used { Tryd.lays167 with } Tryd.Builder_Extra_167.toX72 b w c0).mono ?_
   rintro e w' ⟨rfl, rfl⟩
   exact ⟨rfl, ⟨v, hb, ho⟩, code_Hex.Kept.refl _ _ _, rfl⟩
set_option maxHeartbeats 4000000 in
set_option maxRecDepth 100000 in
theorem code_Hex.write (B b : Nat) (l : List Int) (c : Int) (w : World) (hbB : b < B) (hBw : B ≤ w.heap.size) (hl : l.length ≤ 8796093022208) (h : code_Hex.Has w B b (.pointer none) l ∨ code_Hex.Has w B b (.pointer (some ⟨b, 0, none⟩)) l) :
 Calls Tryd.prog 56 #[.pointer (some ⟨b, 0, none⟩), .int .u8 c] w fun e w' => e = .returned .nilIface ∧ code_Hex.Has w' B b (.pointer (some ⟨b, 0, none⟩)) (l ++ [c]) ∧ code_Hex.Kept B b w w' ∧ w.heap.size ≤ w'.heap.size := by
 have HH := Aside0.mk h
 have HL := Aside0.mk hl
 clear h hl
 go_enter Tryd.func56, Tryd.ntmps56
 go_wp2_with (go_at_call 77; refine (code_Hex.copyCheck B b l _ hbB HH.out).mono ?_)
 rintro e w1 ⟨rfl, ⟨v, hbk, hown⟩, hk1, hz1⟩
 have c1 : w1.cell? ⟨b, 1, none⟩ = some v := by rw [Lib.cell_of_heap hbk]; rfl
 have HBK := Aside0.mk hbk
 have HO := Aside0.mk hown
 have HK1 := Aside0.mk hk1
 have hz2 : B ≤ w1.heap.size := by omega
 have HZ := Aside0.mk hz1
 clear hbk hown hk1 hz1
 go_wp2_with ((with_reducible refine gate_builtin (b := .append) (xs := #[.tmp 11, .tmp 13]) rfl ?_); go_must (at_builtin; refine print_append_num (w0 := w1) (W := w1) B rfl (.tmp 11) (.tmp 13) 91 5 .u8 1 rfl Tryd.underlying91 code_Hex.info (by decide) v l c rfl rfl HO.out (Below.refl _ _) hz2 (by have := HL.out; omega) ?_; intro v4 w4 ho hb hg hat; obtain ⟨A4, c4, rfl⟩ := own_slice ho; have HO4 := Aside0.mk ho; have HB4 := Aside0.mk hb; have hb4 := (hb.block b hbB).trans HBK.out; have d1 : w4.cell? ⟨b, 1, none⟩ = some v := (by rw [Lib.cell_of_heap hb4]; rfl); have f1 : w4.frozen? ⟨b, 1, none⟩ = false := Lib.frozen_of_heap hb4 1; have HB5 := Aside0.mk hb4; clear ho hb hg hat hb4))
 go_ret
 refine ⟨rfl, ⟨.slice A4 (l ++ [c]).length c4, ?_, own_setCell HO4.out ?_ _⟩, HK1.out.trans (code_Hex.Kept.trans ⟨HB4.out.mono (Nat.le_of_lt hbB), fun k hk _ => HB4.out.block k hk⟩ (code_Hex.kept_set _ _ _ _ _)), ?_⟩
 · simp [World.setCell, Array.getElem?_modify, HB5.out]
 · intro he
   have := own_base HO4.out b he.symm
   omega
 · have h1 := HB4.out.size
   have h2 := HZ.out
   simp
   omega
theorem code_Hex.out_length : ∀ l : List UInt8, (code_Hex.out l).length = 2 * l.length
 | [] => rfl
 | c :: cs => by rw [code_Hex.out, List.length_cons, List.length_cons, code_Hex.out_length cs, List.length_cons]; omega
theorem code_Hex.out_append : ∀ a b : List UInt8, code_Hex.out (a ++ b) = code_Hex.out a ++ code_Hex.out b
 | [], b => rfl
 | c :: cs, b => by rw [List.cons_append, code_Hex.out, code_Hex.out, code_Hex.out_append cs b]; rfl
def code_Hex.ints (l : List UInt8) : List Int := l.map fun b => (b.toNat : Int)
theorem code_Hex.dg_eq (n : Nat) (hn : n < (⟨#[48, 49, 50, 51, 52, 53, 54, 55, 56, 57, 97, 98, 99, 100, 101, 102]⟩ : ByteArray).size) : (⟨#[48, 49, 50, 51, 52, 53, 54, 55, 56, 57, 97, 98, 99, 100, 101, 102]⟩ : ByteArray)[n]'hn = code_Hex.dg n := by
 match n, hn with
 | 0, _ => exact rfl
 | 1, _ => exact rfl
 | 2, _ => exact rfl
 | 3, _ => exact rfl
 | 4, _ => exact rfl
 | 5, _ => exact rfl
 | 6, _ => exact rfl
 | 7, _ => exact rfl
 | 8, _ => exact rfl
 | 9, _ => exact rfl
 | 10, _ => exact rfl
 | 11, _ => exact rfl
 | 12, _ => exact rfl
 | 13, _ => exact rfl
 | 14, _ => exact rfl
 | 15, _ => exact rfl
 | n + 16, h => exact absurd h (by show ¬ n + 16 < 16; omega)
theorem code_Hex.index (w : World) (n : Nat) (hn : n < 16) : Sem.run Tryd.prog (Instr.index 9 (.string ⟨#[48, 49, 50, 51, 52, 53, 54, 55, 56, 57, 97, 98, 99, 100, 101, 102]⟩) (.int .u8 (n : Int))) w = .ok (.int .u8 ((code_Hex.dg n).toNat : Int)) w := by
 have hu := Tryd.underlying9
 have h0 : (0 : Int) ≤ (n : Int) := Int.natCast_nonneg n
 have h1 : (n : Int) < 16 := by omega
 unfold Instr.index
 go_simp
 exact congrArg (fun u : UInt8 => (u.toNat : Int)) (code_Hex.dg_eq n hn)
set_option maxHeartbeats 4000000 in
set_option maxRecDepth 100000 in
theorem code_Hex.calls (a0 : ByteArray) (r : ByteArray) (w : World) (h : code_Hex.f a0 = some r) :
 Calls Tryd.prog 33 #[.string a0] w fun e w' => e = .returned (.string r) ∧ Below w.heap.size w w' := by
 unfold code_Hex.f at h
 by_cases hs : a0.size ≤ 1099511627776
 ·
  rw [if_pos hs] at h
  obtain rfl := Option.some.inj h
  have HS := Aside0.mk hs
  have kb := fun W => print_bytes (P := Tryd.prog) 9 91 5 Tryd.underlying9 Tryd.underlying91 Tryd.underlying5 a0 W
  obtain ⟨W0, hW0⟩ : ∃ W0, W0 = w.alloc (.cells #[.pointer none, .slice none 0 0] 98) := ⟨_, rfl⟩
  have hz0 : W0.heap.size = w.heap.size + 1 := by rw [hW0]; simp
  have hb0 : W0.heap[w.heap.size]? = some (.cells #[.pointer none, .slice none 0 0] 98 (0, 0)) := by rw [hW0]; exact heap_alloc_new w _
  have hbw : Below w.heap.size w W0 := by rw [hW0]; exact below_alloc (Below.refl _ _) _
  have RB := bytes_reads W0 5 a0 (by omega)
  rw [hz0] at RB
  have RB := Aside0.mk RB
  have hb1 : (Lib.bytesWorld W0 5 a0).heap[w.heap.size]? = some (.cells #[.pointer none, .slice none 0 0] 98 (0, 0)) := (Lib.bytesWorld_at_old W0 5 a0 _ (by omega)).trans hb0
  have HB1 := Aside0.mk hb1
  have BB := Aside0.mk (bytes_below hbw (by omega) 5 a0)
  have SB := Aside0.mk (show (Lib.bytesWorld W0 5 a0).heap.size = w.heap.size + 1 + 1 by rw [Lib.bytesWorld_size, hz0])
  clear h hs hz0 hb0 hbw hb1
  go_enter Tryd.func33, Tryd.ntmps33
  go_wp2_with fail
  clear kb
  rw [← hW0]
  clear hW0
  generalize Lib.bytesWorld W0 5 a0 = W1 at *
  have HI : code_Hex.Has W1 (w.heap.size + 1 + 1) w.heap.size (.pointer none) (code_Hex.ints (code_Hex.out (a0.data.toList.take 0))) := ⟨_, HB1.out, own_nil _ _ _ _⟩
  have HI := Aside0.mk HI
  generalize grownCap W0 a0.size 0 5 = gc at *
  generalize hbz : w.heap.size = b at *
  go_loopw [9] (fun u9 wr => ∃ (j : Nat) (p : Value), u9 = .int .i64 j ∧ j ≤ a0.size ∧ Aside0 ((p = .pointer none ∨ p = .pointer (some ⟨b, 0, none⟩)) ∧ code_Hex.Has wr (b + 1 + 1) b p (code_Hex.ints (code_Hex.out (a0.data.toList.take j)))) ∧ Aside0 (code_Hex.Kept (b + 1 + 1) b W1 wr) ∧ Aside0 (b + 1 + 1 ≤ wr.heap.size)) (fun u9 _ => a0.size - (intOf u9).toNat)
  case atStart => exact ⟨0, _, rfl, by omega, ⟨.inl rfl, HI.out⟩, ⟨code_Hex.Kept.refl _ _ _⟩, ⟨by rw [SB.out]; exact Nat.le_refl _⟩⟩
  case round =>
   obtain ⟨j, p, rfl, hj, HP, HK, HZ⟩ := hrel
   by_cases hlt : j < a0.size
   ·
    have hltI : (j : Int) < (a0.size : Int) := by omega
    obtain ⟨ad, ead, hcell⟩ := RB.out.2.2 (by omega)
    cases ead
    have hc := hcell j hlt
    rw [add_plain] at hc
    clear hcell
    replace hc : wr.cell? ⟨b + 1, j, none⟩ = _ := (World.cell?_of_block (w := W1) (HK.out.2 (b + 1) (by omega) (by omega))).trans hc
    have hlen : j < a0.data.toList.length := by rw [data_length]; exact hlt
    have hx : (bytesOf a0).getD j 0 = ((a0.data.toList[j].toNat : Nat) : Int) := by
     rw [List.getD_eq_getElem?_getD, bytesOf, List.getElem?_map, List.getElem?_eq_getElem hlen]
     rfl
    have htk : a0.data.toList.take (j + 1) = a0.data.toList.take j ++ [a0.data.toList[j]] := (List.take_append_getElem hlen).symm
    have hol : (code_Hex.ints (code_Hex.out (a0.data.toList.take j))).length = 2 * j := by
     rw [code_Hex.ints, List.length_map, code_Hex.out_length, List.length_take, Nat.min_eq_left (Nat.le_of_lt hlen)]
    rw [hx] at hc
    have HT := Aside0.mk htk
    have OL := Aside0.mk hol
    clear hx htk hol
    generalize a0.data.toList[j] = c at *
    have hcl : c.toNat < 256 := c.toNat_lt
    have hq : Int.tdiv (c.toNat : Int) 16 = ((c.toNat / 16 : Nat) : Int) := rfl
    have hr : Int.tmod (c.toNat : Int) 16 = ((c.toNat % 16 : Nat) : Int) := rfl
    have hq0 : code_Hex.Has wr (b + 1 + 1) b (.pointer none) (code_Hex.ints (code_Hex.out (a0.data.toList.take j))) ∨ code_Hex.Has wr (b + 1 + 1) b (.pointer (some ⟨b, 0, none⟩)) (code_Hex.ints (code_Hex.out (a0.data.toList.take j))) := by
     rcases HP.out with ⟨e | e, h⟩
     · rw [e] at h
       exact .inl h
     · rw [e] at h
       exact .inr h
    have HQ := Aside0.mk hq0
    have HWJ : Aside0 (Go.RowKit.wrap64 ((j : Int) + 1) = (j : Int) + 1) := ⟨(i64_w _).symm.trans (IntWalk.i64_in _ (by have := HS.out; omega))⟩
    have hd1 : c.toNat / 16 < 16 := by omega
    have hd2 : c.toNat % 16 < 16 := by omega
    have hot : code_Hex.ints (code_Hex.out (a0.data.toList.take (j + 1))) = code_Hex.ints (code_Hex.out (a0.data.toList.take j)) ++ [((code_Hex.dg (c.toNat / 16)).toNat : Int)] ++ [((code_Hex.dg (c.toNat % 16)).toNat : Int)] := by
     rw [HT.out, code_Hex.out_append, code_Hex.ints, List.map_append, List.append_assoc]
     rfl
    have HT := Aside0.mk hot
    clear hq0 hot
    go_upto_region 6 with (go_at_call 56; rw [code_Hex.dg_eq (c.toNat / 16) hd1]; go_must (refine (code_Hex.write (b + 1 + 1) b _ ((code_Hex.dg (c.toNat / 16)).toNat : Int) wr (by omega) HZ.out (by rw [OL.out]; have := HS.out; omega) HQ.out).mono ?_; rintro e w1 ⟨rfl, hH1, hK1, hZ1⟩; have H1 := Aside0.mk hH1; have K1 := Aside0.mk hK1; have Z1 := Aside0.mk (Nat.le_trans HZ.out hZ1); clear hH1 hK1 hZ1))
    go_wp2_with (go_at_call 56; rw [code_Hex.dg_eq (c.toNat % 16) hd2]; go_must (refine (code_Hex.write (b + 1 + 1) b _ ((code_Hex.dg (c.toNat % 16)).toNat : Int) w1 (by omega) Z1.out (by rw [List.length_append, OL.out]; have := HS.out; show 2 * j + 1 ≤ _; omega) (.inr H1.out)).mono ?_; rintro e w2 ⟨rfl, hH2, hK2, hZ2⟩; have H2 := Aside0.mk hH2; have K2 := Aside0.mk hK2; have Z2 := Aside0.mk (Nat.le_trans Z1.out hZ2); clear hH2 hK2 hZ2))
    go_roundw
    case rel => exact ⟨j + 1, _, by rw [HWJ.out]; rfl, by omega, ⟨.inr rfl, by rw [HT.out]; exact H2.out⟩, ⟨(HK.out.trans K1.out).trans K2.out⟩, Z2⟩
    case measure =>
     simp only [HWJ.out]
     simp [intOf]
     omega
   ·
    obtain rfl : j = a0.size := by omega
    have hall : a0.data.toList.take a0.size = a0.data.toList := List.take_of_length_le (by rw [data_length]; exact Nat.le_refl _)
    have hI : Lib.IsBuilderF 98 5 b b (Lib.byteCells (code_Hex.out a0.data.toList)) wr := by
     have hcell : nums .u8 (code_Hex.ints (code_Hex.out a0.data.toList)) = Lib.byteCells (code_Hex.out a0.data.toList) := by simp [nums, code_Hex.ints, Lib.byteCells]
     have hlen : (Lib.byteCells (code_Hex.out a0.data.toList)).length = (code_Hex.ints (code_Hex.out a0.data.toList)).length := by simp [code_Hex.ints, Lib.byteCells]
     have go : ∀ p, code_Hex.Has wr (b + 1 + 1) b p (code_Hex.ints (code_Hex.out a0.data.toList)) → Lib.BuilderAtF 98 5 b b p (Lib.byteCells (code_Hex.out a0.data.toList)) wr := by
      rintro p ⟨v, hv, ho⟩
      rw [hcell] at ho
      refine ⟨Nat.le_refl _, v, hv, ?_, fun he => by have := own_base ho b he; omega⟩
      rw [hlen]
      have h2 := World.ownsRowF_of ho
      rcases h2 with ⟨h3, h4 | ⟨g, cap, cur, fz, h5, h6, h7⟩⟩
      · exact ⟨h3, .inl h4⟩
      · exact ⟨h3, .inr ⟨g, cap, cur, fz, h5, by omega, h7⟩⟩
     rcases HP.out with ⟨e | e, h⟩
     · rw [e, hall] at h
       exact .inl (go _ h)
     · rw [e, hall] at h
       exact .inr (go _ h)
    have HI2 := Aside0.mk hI
    clear hI hall
    go_wp2_with (go_at_call 57; refine (Tryd.builder_StringB b b (code_Hex.out a0.data.toList) wr HI2.out (by have := HZ.out; omega)).mono ?_; rintro e w2 ⟨rfl, -, hb2, -⟩)
    go_ret
    exact ⟨rfl, by rw [hbz]; exact (BB.out.trans HK.out.1).trans hb2⟩
 · rw [if_neg hs] at h
   cases h


/-! ### object_PutCommit: function 14 -/
def object_PutCommit.l0 : Nat → ByteArray → List ByteArray → Int → Int → ByteArray → List ByteArray → ByteArray → Int → ByteArray → Option (ByteArray × Int)
 | 0, _, _, _, _, _, _, _, _, _ => none
 | k + 1, x5, x19, x20, x21, x449000, x449001, x449002, x449003, x449004 => if x21 < x20 then (if 0 ≤ x21 then (if x21 < (x19.length : Int) then ((code_Hex.f (rdOf ByteArray.empty x19 x21)).bind fun t452 => (if 7 + t452.size ≤ 9223372036854775807 then (if (7 + t452.size) + 1 ≤ 9223372036854775807 then (if x5.size + ((7 + t452.size) + 1) ≤ 9223372036854775807 then (object_PutCommit.l0 k (x5 ++ (((⟨#[112, 97, 114, 101, 110, 116, 32]⟩ : ByteArray) ++ t452) ++ (⟨#[10]⟩ : ByteArray))) x19 x20 (wrap64 (x21 + 1)) x449000 x449001 x449002 x449003 x449004) else (none)) else (none)) else (none))) else (none)) else (none)) else (if x5.size + 7 ≤ 9223372036854775807 then (if (x5 ++ (⟨#[97, 117, 116, 104, 111, 114, 32]⟩ : ByteArray)).size + x449002.size ≤ 9223372036854775807 then (if ((x5 ++ (⟨#[97, 117, 116, 104, 111, 114, 32]⟩ : ByteArray)) ++ x449002).size + 6 ≤ 9223372036854775807 then ((code_Dec.f k x449003).bind fun t453 => (if (((x5 ++ (⟨#[97, 117, 116, 104, 111, 114, 32]⟩ : ByteArray)) ++ x449002) ++ (⟨#[10, 116, 105, 109, 101, 32]⟩ : ByteArray)).size + t453.size ≤ 9223372036854775807 then (if ((((x5 ++ (⟨#[97, 117, 116, 104, 111, 114, 32]⟩ : ByteArray)) ++ x449002) ++ (⟨#[10, 116, 105, 109, 101, 32]⟩ : ByteArray)) ++ t453).size + 2 ≤ 9223372036854775807 then (if (((((x5 ++ (⟨#[97, 117, 116, 104, 111, 114, 32]⟩ : ByteArray)) ++ x449002) ++ (⟨#[10, 116, 105, 109, 101, 32]⟩ : ByteArray)) ++ t453) ++ (⟨#[10, 10]⟩ : ByteArray)).size + x449004.size ≤ 9223372036854775807 then (some ((((((x5 ++ (⟨#[97, 117, 116, 104, 111, 114, 32]⟩ : ByteArray)) ++ x449002) ++ (⟨#[10, 116, 105, 109, 101, 32]⟩ : ByteArray)) ++ t453) ++ (⟨#[10, 10]⟩ : ByteArray)) ++ x449004, 0)) else (none)) else (none)) else (none))) else (none)) else (none)) else (none))
def object_PutCommit.f (k : Nat) (a0_0 : ByteArray) (l0_1 : List ByteArray) (a0_2 : ByteArray) (a0_3 : Int) (a0_4 : ByteArray) : Option (ByteArray × Int) := (object_CheckCommit.f k a0_0 l0_1 a0_2 a0_3 a0_4).bind fun t449 => (if t449 = 0 then ((code_Hex.f a0_0).bind fun t450 => (if 5 + t450.size ≤ 9223372036854775807 then (if (5 + t450.size) + 1 ≤ 9223372036854775807 then (object_PutCommit.l0 k (((⟨#[116, 114, 101, 101, 32]⟩ : ByteArray) ++ t450) ++ (⟨#[10]⟩ : ByteArray)) l0_1 (l0_1.length : Int) 0 a0_0 l0_1 a0_2 a0_3 a0_4) else (none)) else (none))) else (some ((⟨#[]⟩ : ByteArray), t449)))
theorem object_PutCommit.mono_l : ∀ k, (∀ y0 y1 y2 y3 y4 y5 y6 y7 y8, LeO (object_PutCommit.l0 k y0 y1 y2 y3 y4 y5 y6 y7 y8) (object_PutCommit.l0 (k + 1) y0 y1 y2 y3 y4 y5 y6 y7 y8))
 | 0 => fun _ _ _ _ _ _ _ _ _ r h => by simp [object_PutCommit.l0] at h
 | k + 1 => by
  have ih0 := object_PutCommit.mono_l k
  ·
   intro y0 y1 y2 y3 y4 y5 y6 y7 y8
   unfold object_PutCommit.l0
   repeat' first
   | (with_reducible exact ih0 _ _ _ _ _ _ _ _ _)
   | (with_reducible exact code_Dec.mono _ _)
   | (with_reducible exact object_CheckCommit.mono _ _ _ _ _ _)
   | (with_reducible exact LeO.refl _)
   | (with_reducible exact LeO.none _)
   | (with_reducible refine LeO.ite ?_ ?_)
   | (with_reducible refine LeO.bind ?_ (fun _ => ?_))
   | exact ih0 _ _ _ _ _ _ _ _ _
   | exact code_Dec.mono _ _
   | exact object_CheckCommit.mono _ _ _ _ _ _
   | exact LeO.none _
   | refine LeO.ite ?_ ?_
   | refine LeO.bind ?_ (fun _ => ?_)
theorem object_PutCommit.mono : ∀ a0 a1 a2 a3 a4 k, LeO (object_PutCommit.f k a0 a1 a2 a3 a4) (object_PutCommit.f (k + 1) a0 a1 a2 a3 a4) := by
 intro a0 a1 a2 a3 a4 k
 have ih0 := object_PutCommit.mono_l k
 unfold object_PutCommit.f
 repeat' first
  | (with_reducible exact ih0 _ _ _ _ _ _ _ _ _)
  | (with_reducible exact code_Dec.mono _ _)
  | (with_reducible exact object_CheckCommit.mono _ _ _ _ _ _)
  | (with_reducible exact LeO.refl _)
  | (with_reducible exact LeO.none _)
  | (with_reducible refine LeO.ite ?_ ?_)
  | (with_reducible refine LeO.bind ?_ (fun _ => ?_))
  | exact ih0 _ _ _ _ _ _ _ _ _
  | exact code_Dec.mono _ _
  | exact object_CheckCommit.mono _ _ _ _ _ _
  | exact LeO.none _
  | refine LeO.ite ?_ ?_
  | refine LeO.bind ?_ (fun _ => ?_)
set_option maxHeartbeats 8000000 in
set_option maxRecDepth 100000 in
theorem object_PutCommit.calls (k : Nat) (a0_0 : ByteArray) (A0_1 : Option Addr) (c0_1 : Nat) (l0_1 : List ByteArray) (a0_2 : ByteArray) (a0_3 : Int) (a0_4 : ByteArray) (r1 : ByteArray) (r2 : Int) (w : World) (hr0_1 : Kd.C Kd.string w A0_1 l0_1.length l0_1) (hc0_1 : l0_1.length ≤ c0_1) (h : object_PutCommit.f k a0_0 l0_1 a0_2 a0_3 a0_4 = some (r1, r2)) :
 Calls Tryd.prog 14 #[.agg #[.string a0_0, .slice A0_1 l0_1.length c0_1, .string a0_2, .int .u64 a0_3, .string a0_4]] w fun e w' => e = .returned (.tuple #[.string r1, .int .i64 r2]) ∧ Below w.heap.size w w' := by
 have hu25 := Tryd.underlying25
 have HR0_1 := Aside0.mk hr0_1
 have HC0_1 := Aside0.mk hc0_1
 clear hr0_1 hc0_1
 have HB := Aside0.mk (Below.refl w.heap.size w)
 have H : ((object_CheckCommit.f k a0_0 l0_1 a0_2 a0_3 a0_4).bind fun t449 => (if t449 = 0 then ((code_Hex.f a0_0).bind fun t450 => (if 5 + t450.size ≤ 9223372036854775807 then (if (5 + t450.size) + 1 ≤ 9223372036854775807 then (object_PutCommit.l0 k (((⟨#[116, 114, 101, 101, 32]⟩ : ByteArray) ++ t450) ++ (⟨#[10]⟩ : ByteArray)) l0_1 (l0_1.length : Int) 0 a0_0 l0_1 a0_2 a0_3 a0_4) else (none)) else (none))) else (some ((⟨#[]⟩ : ByteArray), t449)))) = some (r1, r2) := h
 clear h
 replace H := Option.bind_eq_some_iff.mp H
 obtain ⟨t449, A20, H⟩ := H
 replace H : (if t449 = 0 then ((code_Hex.f a0_0).bind fun t450 => (if 5 + t450.size ≤ 9223372036854775807 then (if (5 + t450.size) + 1 ≤ 9223372036854775807 then (object_PutCommit.l0 k (((⟨#[116, 114, 101, 101, 32]⟩ : ByteArray) ++ t450) ++ (⟨#[10]⟩ : ByteArray)) l0_1 (l0_1.length : Int) 0 a0_0 l0_1 a0_2 a0_3 a0_4) else (none)) else (none))) else (some ((⟨#[]⟩ : ByteArray), t449))) = some (r1, r2) := H
 have A2 := Aside0.mk A20
 clear A20
 by_cases c3 : t449 = 0
 ·
  rw [if_pos c3] at H
  have c3b0 : (t449 == 0) = true := beq_iff_eq.mpr c3
  have c3b1 : (t449 != 0) = false := bne_eq_false_iff_eq.mpr c3
  clear c3
  replace H := Option.bind_eq_some_iff.mp H
  obtain ⟨t450, A40, H⟩ := H
  replace H : (if 5 + t450.size ≤ 9223372036854775807 then (if (5 + t450.size) + 1 ≤ 9223372036854775807 then (object_PutCommit.l0 k (((⟨#[116, 114, 101, 101, 32]⟩ : ByteArray) ++ t450) ++ (⟨#[10]⟩ : ByteArray)) l0_1 (l0_1.length : Int) 0 a0_0 l0_1 a0_2 a0_3 a0_4) else (none)) else (none)) = some (r1, r2) := H
  have A4 := Aside0.mk A40
  clear A40
  by_cases c5 : 5 + t450.size ≤ 9223372036854775807
  ·
   rw [if_pos c5] at H
   have c5b0 := eq_true c5
   have c5b1 : decide (5 + t450.size ≤ 9223372036854775807) = true := decide_eq_true c5
   try have c5b2 : (9223372036854775807 < 5 + t450.size) = False := eq_false (Nat.not_lt.2 c5)
   by_cases c6 : (5 + t450.size) + 1 ≤ 9223372036854775807
   ·
    rw [if_pos c6] at H
    have c6b0 := eq_true c6
    have c6b1 : decide ((5 + t450.size) + 1 ≤ 9223372036854775807) = true := decide_eq_true c6
    try have c6b2 : (9223372036854775807 < (5 + t450.size) + 1) = False := eq_false (Nat.not_lt.2 c6)
    have H' := Aside0.mk H
    clear H
    go_enter Tryd.func14, Tryd.ntmps14
    go_wp2_with (first | ((with_reducible refine gate_dst (N := 1) rfl ?_); refine box_event ?hg (N := 1) ?hd (cs := #[.string a0_0, .slice A0_1 l0_1.length c0_1, .string a0_2, .int .u64 a0_3, .string a0_4]) (t := 25) ?hr ?_; (case hd => rfl); (case hg => rfl); (case hr => first | (go_simp; done) | (go_simp; rfl) | (go_simp; simp only [show ∀ x_ : Int, IntKind.u8.wrap x_ = x_ % 256 from fun _ => rfl, Int.add_emod_emod, Int.emod_add_emod, Int.emod_emod]; done)); intro gb448 hg w7 hbox hb; have n0_ := Aside0.mk (below_step (by repeat (first | (with_reducible first | exact HB.out | apply below_alloc | apply pw_below_drewN | apply below_drew1) | exact HB.out)) hb); have n1_ := Aside0.mk (hbox); have n2_ := Aside0.mk ((by rw [hg]; exact (below_size (by repeat (first | (with_reducible first | exact HB.out | apply below_alloc | apply pw_below_drewN | apply below_drew1) | exact HB.out))) : w.heap.size ≤ gb448)); have n3_ := Aside0.mk ((by rw [hg]; exact (below_size (by repeat (first | (with_reducible first | exact HB.out | apply below_alloc | apply pw_below_drewN | apply below_drew1) | exact HB.out))) : w.heap.size ≤ gb448)); clear HB; have HB := n0_; have BK448 := n1_; have GW448 := n2_; have GE448 := n3_; clear n0_ n1_ n2_ n3_; clear hb hbox hg; have hcz8_0 : w7.cell? ⟨gb448, 0, none⟩ = some (.string a0_0) := (blk_cell BK448.out 0).trans rfl; have hcz8_1 : w7.cell? ⟨gb448, 1, none⟩ = some (.slice A0_1 l0_1.length c0_1) := (blk_cell BK448.out 1).trans rfl; have hcz8_2 : w7.cell? ⟨gb448, 2, none⟩ = some (.string a0_2) := (blk_cell BK448.out 2).trans rfl; have hcz8_3 : w7.cell? ⟨gb448, 3, none⟩ = some (.int .u64 a0_3) := (blk_cell BK448.out 3).trans rfl; have hcz8_4 : w7.cell? ⟨gb448, 4, none⟩ = some (.string a0_4) := (blk_cell BK448.out 4).trans rfl; have hfz8_0 := blk_frozen BK448.out 0; have hfz8_1 := blk_frozen BK448.out 1; have hfz8_2 := blk_frozen BK448.out 2; have hfz8_3 := blk_frozen BK448.out 3; have hfz8_4 := blk_frozen BK448.out 4) | (go_at_call 15; (with_reducible refine (object_CheckCommit.calls k a0_0 _ _ l0_1 a0_2 a0_3 a0_4 t449 _ ?side1 ?side2 A2.out).mono ?_); (case side1 => repeat (first | exact (Kd.C_below HR0_1.out HB.out) | (with_reducible refine Kd.C_alloc ?_ _) | (with_reducible refine Kd.C_drewN ?_ _) | (with_reducible refine Kd.C_drew ?_))); (case side2 => exact HC0_1.out); rintro e w9 ⟨rfl, hb⟩; have n0_ := Aside0.mk (blk_below (g := gb448) (o := .cells #[.string a0_0, .slice A0_1 l0_1.length c0_1, .string a0_2, .int .u64 a0_3, .string a0_4] 25 (0, 0)) (by (with_reducible repeat (first | refine blk_drewN ?_ _ | refine blk_drew ?_ | refine blk_alloc ?_ _)); exact BK448.out) hb); have n1_ := Aside0.mk (below_step (by repeat (first | (with_reducible first | exact HB.out | apply below_alloc | apply pw_below_drewN | apply below_drew1 | refine below_set ?_ GE448.out) | exact HB.out)) hb); clear BK448; clear HB; have BK448 := n0_; have HB := n1_; clear n0_ n1_; (try clear hb); (try clear hb2); (try clear hk); (try clear hi); have hcz10_0 : w9.cell? ⟨gb448, 0, none⟩ = some (.string a0_0) := (blk_cell BK448.out 0).trans rfl; have hcz10_1 : w9.cell? ⟨gb448, 1, none⟩ = some (.slice A0_1 l0_1.length c0_1) := (blk_cell BK448.out 1).trans rfl; have hcz10_2 : w9.cell? ⟨gb448, 2, none⟩ = some (.string a0_2) := (blk_cell BK448.out 2).trans rfl; have hcz10_3 : w9.cell? ⟨gb448, 3, none⟩ = some (.int .u64 a0_3) := (blk_cell BK448.out 3).trans rfl; have hcz10_4 : w9.cell? ⟨gb448, 4, none⟩ = some (.string a0_4) := (blk_cell BK448.out 4).trans rfl; have hfz10_0 := blk_frozen BK448.out 0; have hfz10_1 := blk_frozen BK448.out 1; have hfz10_2 := blk_frozen BK448.out 2; have hfz10_3 := blk_frozen BK448.out 3; have hfz10_4 := blk_frozen BK448.out 4) | (go_at_call 33; (with_reducible refine (code_Hex.calls a0_0 t450 _ A4.out).mono ?_); rintro e w11 ⟨rfl, hb⟩; have n0_ := Aside0.mk (blk_below (g := gb448) (o := .cells #[.string a0_0, .slice A0_1 l0_1.length c0_1, .string a0_2, .int .u64 a0_3, .string a0_4] 25 (0, 0)) (by (with_reducible repeat (first | refine blk_drewN ?_ _ | refine blk_drew ?_ | refine blk_alloc ?_ _)); exact BK448.out) hb); have n1_ := Aside0.mk (below_step (by repeat (first | (with_reducible first | exact HB.out | apply below_alloc | apply pw_below_drewN | apply below_drew1 | refine below_set ?_ GE448.out) | exact HB.out)) hb); clear BK448; clear HB; have BK448 := n0_; have HB := n1_; clear n0_ n1_; (try clear hb); (try clear hb2); (try clear hk); (try clear hi); have hcz12_0 : w11.cell? ⟨gb448, 0, none⟩ = some (.string a0_0) := (blk_cell BK448.out 0).trans rfl; have hcz12_1 : w11.cell? ⟨gb448, 1, none⟩ = some (.slice A0_1 l0_1.length c0_1) := (blk_cell BK448.out 1).trans rfl; have hcz12_2 : w11.cell? ⟨gb448, 2, none⟩ = some (.string a0_2) := (blk_cell BK448.out 2).trans rfl; have hcz12_3 : w11.cell? ⟨gb448, 3, none⟩ = some (.int .u64 a0_3) := (blk_cell BK448.out 3).trans rfl; have hcz12_4 : w11.cell? ⟨gb448, 4, none⟩ = some (.string a0_4) := (blk_cell BK448.out 4).trans rfl; have hfz12_0 := blk_frozen BK448.out 0; have hfz12_1 := blk_frozen BK448.out 1; have hfz12_2 := blk_frozen BK448.out 2; have hfz12_3 := blk_frozen BK448.out 3; have hfz12_4 := blk_frozen BK448.out 4))
    repeat (go_quiet (first | ((with_reducible refine gate_dst (N := 1) rfl ?_); refine box_event ?hg (N := 1) ?hd (cs := #[.string a0_0, .slice A0_1 l0_1.length c0_1, .string a0_2, .int .u64 a0_3, .string a0_4]) (t := 25) ?hr ?_; (case hd => rfl); (case hg => rfl); (case hr => first | (go_simp; done) | (go_simp; rfl) | (go_simp; simp only [show ∀ x_ : Int, IntKind.u8.wrap x_ = x_ % 256 from fun _ => rfl, Int.add_emod_emod, Int.emod_add_emod, Int.emod_emod]; done)); intro gb448 hg w7 hbox hb; have n0_ := Aside0.mk (below_step (by repeat (first | (with_reducible first | exact HB.out | apply below_alloc | apply pw_below_drewN | apply below_drew1) | exact HB.out)) hb); have n1_ := Aside0.mk (hbox); have n2_ := Aside0.mk ((by rw [hg]; exact (below_size (by repeat (first | (with_reducible first | exact HB.out | apply below_alloc | apply pw_below_drewN | apply below_drew1) | exact HB.out))) : w.heap.size ≤ gb448)); have n3_ := Aside0.mk ((by rw [hg]; exact (below_size (by repeat (first | (with_reducible first | exact HB.out | apply below_alloc | apply pw_below_drewN | apply below_drew1) | exact HB.out))) : w.heap.size ≤ gb448)); clear HB; have HB := n0_; have BK448 := n1_; have GW448 := n2_; have GE448 := n3_; clear n0_ n1_ n2_ n3_; clear hb hbox hg; have hcz8_0 : w7.cell? ⟨gb448, 0, none⟩ = some (.string a0_0) := (blk_cell BK448.out 0).trans rfl; have hcz8_1 : w7.cell? ⟨gb448, 1, none⟩ = some (.slice A0_1 l0_1.length c0_1) := (blk_cell BK448.out 1).trans rfl; have hcz8_2 : w7.cell? ⟨gb448, 2, none⟩ = some (.string a0_2) := (blk_cell BK448.out 2).trans rfl; have hcz8_3 : w7.cell? ⟨gb448, 3, none⟩ = some (.int .u64 a0_3) := (blk_cell BK448.out 3).trans rfl; have hcz8_4 : w7.cell? ⟨gb448, 4, none⟩ = some (.string a0_4) := (blk_cell BK448.out 4).trans rfl; have hfz8_0 := blk_frozen BK448.out 0; have hfz8_1 := blk_frozen BK448.out 1; have hfz8_2 := blk_frozen BK448.out 2; have hfz8_3 := blk_frozen BK448.out 3; have hfz8_4 := blk_frozen BK448.out 4) | (go_at_call 15; (with_reducible refine (object_CheckCommit.calls k a0_0 _ _ l0_1 a0_2 a0_3 a0_4 t449 _ ?side1 ?side2 A2.out).mono ?_); (case side1 => repeat (first | exact (Kd.C_below HR0_1.out HB.out) | (with_reducible refine Kd.C_alloc ?_ _) | (with_reducible refine Kd.C_drewN ?_ _) | (with_reducible refine Kd.C_drew ?_))); (case side2 => exact HC0_1.out); rintro e w9 ⟨rfl, hb⟩; have n0_ := Aside0.mk (blk_below (g := gb448) (o := .cells #[.string a0_0, .slice A0_1 l0_1.length c0_1, .string a0_2, .int .u64 a0_3, .string a0_4] 25 (0, 0)) (by (with_reducible repeat (first | refine blk_drewN ?_ _ | refine blk_drew ?_ | refine blk_alloc ?_ _)); exact BK448.out) hb); have n1_ := Aside0.mk (below_step (by repeat (first | (with_reducible first | exact HB.out | apply below_alloc | apply pw_below_drewN | apply below_drew1 | refine below_set ?_ GE448.out) | exact HB.out)) hb); clear BK448; clear HB; have BK448 := n0_; have HB := n1_; clear n0_ n1_; (try clear hb); (try clear hb2); (try clear hk); (try clear hi); have hcz10_0 : w9.cell? ⟨gb448, 0, none⟩ = some (.string a0_0) := (blk_cell BK448.out 0).trans rfl; have hcz10_1 : w9.cell? ⟨gb448, 1, none⟩ = some (.slice A0_1 l0_1.length c0_1) := (blk_cell BK448.out 1).trans rfl; have hcz10_2 : w9.cell? ⟨gb448, 2, none⟩ = some (.string a0_2) := (blk_cell BK448.out 2).trans rfl; have hcz10_3 : w9.cell? ⟨gb448, 3, none⟩ = some (.int .u64 a0_3) := (blk_cell BK448.out 3).trans rfl; have hcz10_4 : w9.cell? ⟨gb448, 4, none⟩ = some (.string a0_4) := (blk_cell BK448.out 4).trans rfl; have hfz10_0 := blk_frozen BK448.out 0; have hfz10_1 := blk_frozen BK448.out 1; have hfz10_2 := blk_frozen BK448.out 2; have hfz10_3 := blk_frozen BK448.out 3; have hfz10_4 := blk_frozen BK448.out 4) | (go_at_call 33; (with_reducible refine (code_Hex.calls a0_0 t450 _ A4.out).mono ?_); rintro e w11 ⟨rfl, hb⟩; have n0_ := Aside0.mk (blk_below (g := gb448) (o := .cells #[.string a0_0, .slice A0_1 l0_1.length c0_1, .string a0_2, .int .u64 a0_3, .string a0_4] 25 (0, 0)) (by (with_reducible repeat (first | refine blk_drewN ?_ _ | refine blk_drew ?_ | refine blk_alloc ?_ _)); exact BK448.out) hb); have n1_ := Aside0.mk (below_step (by repeat (first | (with_reducible first | exact HB.out | apply below_alloc | apply pw_below_drewN | apply below_drew1 | refine below_set ?_ GE448.out) | exact HB.out)) hb); clear BK448; clear HB; have BK448 := n0_; have HB := n1_; clear n0_ n1_; (try clear hb); (try clear hb2); (try clear hk); (try clear hi); have hcz12_0 : w11.cell? ⟨gb448, 0, none⟩ = some (.string a0_0) := (blk_cell BK448.out 0).trans rfl; have hcz12_1 : w11.cell? ⟨gb448, 1, none⟩ = some (.slice A0_1 l0_1.length c0_1) := (blk_cell BK448.out 1).trans rfl; have hcz12_2 : w11.cell? ⟨gb448, 2, none⟩ = some (.string a0_2) := (blk_cell BK448.out 2).trans rfl; have hcz12_3 : w11.cell? ⟨gb448, 3, none⟩ = some (.int .u64 a0_3) := (blk_cell BK448.out 3).trans rfl; have hcz12_4 : w11.cell? ⟨gb448, 4, none⟩ = some (.string a0_4) := (blk_cell BK448.out 4).trans rfl; have hfz12_0 := blk_frozen BK448.out 0; have hfz12_1 := blk_frozen BK448.out 1; have hfz12_2 := blk_frozen BK448.out 2; have hfz12_3 := blk_frozen BK448.out 3; have hfz12_4 := blk_frozen BK448.out 4)); try go_wp2_with (first | ((with_reducible refine gate_dst (N := 1) rfl ?_); refine box_event ?hg (N := 1) ?hd (cs := #[.string a0_0, .slice A0_1 l0_1.length c0_1, .string a0_2, .int .u64 a0_3, .string a0_4]) (t := 25) ?hr ?_; (case hd => rfl); (case hg => rfl); (case hr => first | (go_simp; done) | (go_simp; rfl) | (go_simp; simp only [show ∀ x_ : Int, IntKind.u8.wrap x_ = x_ % 256 from fun _ => rfl, Int.add_emod_emod, Int.emod_add_emod, Int.emod_emod]; done)); intro gb448 hg w7 hbox hb; have n0_ := Aside0.mk (below_step (by repeat (first | (with_reducible first | exact HB.out | apply below_alloc | apply pw_below_drewN | apply below_drew1) | exact HB.out)) hb); have n1_ := Aside0.mk (hbox); have n2_ := Aside0.mk ((by rw [hg]; exact (below_size (by repeat (first | (with_reducible first | exact HB.out | apply below_alloc | apply pw_below_drewN | apply below_drew1) | exact HB.out))) : w.heap.size ≤ gb448)); have n3_ := Aside0.mk ((by rw [hg]; exact (below_size (by repeat (first | (with_reducible first | exact HB.out | apply below_alloc | apply pw_below_drewN | apply below_drew1) | exact HB.out))) : w.heap.size ≤ gb448)); clear HB; have HB := n0_; have BK448 := n1_; have GW448 := n2_; have GE448 := n3_; clear n0_ n1_ n2_ n3_; clear hb hbox hg; have hcz8_0 : w7.cell? ⟨gb448, 0, none⟩ = some (.string a0_0) := (blk_cell BK448.out 0).trans rfl; have hcz8_1 : w7.cell? ⟨gb448, 1, none⟩ = some (.slice A0_1 l0_1.length c0_1) := (blk_cell BK448.out 1).trans rfl; have hcz8_2 : w7.cell? ⟨gb448, 2, none⟩ = some (.string a0_2) := (blk_cell BK448.out 2).trans rfl; have hcz8_3 : w7.cell? ⟨gb448, 3, none⟩ = some (.int .u64 a0_3) := (blk_cell BK448.out 3).trans rfl; have hcz8_4 : w7.cell? ⟨gb448, 4, none⟩ = some (.string a0_4) := (blk_cell BK448.out 4).trans rfl; have hfz8_0 := blk_frozen BK448.out 0; have hfz8_1 := blk_frozen BK448.out 1; have hfz8_2 := blk_frozen BK448.out 2; have hfz8_3 := blk_frozen BK448.out 3; have hfz8_4 := blk_frozen BK448.out 4) | (go_at_call 15; (with_reducible refine (object_CheckCommit.calls k a0_0 _ _ l0_1 a0_2 a0_3 a0_4 t449 _ ?side1 ?side2 A2.out).mono ?_); (case side1 => repeat (first | exact (Kd.C_below HR0_1.out HB.out) | (with_reducible refine Kd.C_alloc ?_ _) | (with_reducible refine Kd.C_drewN ?_ _) | (with_reducible refine Kd.C_drew ?_))); (case side2 => exact HC0_1.out); rintro e w9 ⟨rfl, hb⟩; have n0_ := Aside0.mk (blk_below (g := gb448) (o := .cells #[.string a0_0, .slice A0_1 l0_1.length c0_1, .string a0_2, .int .u64 a0_3, .string a0_4] 25 (0, 0)) (by (with_reducible repeat (first | refine blk_drewN ?_ _ | refine blk_drew ?_ | refine blk_alloc ?_ _)); exact BK448.out) hb); have n1_ := Aside0.mk (below_step (by repeat (first | (with_reducible first | exact HB.out | apply below_alloc | apply pw_below_drewN | apply below_drew1 | refine below_set ?_ GE448.out) | exact HB.out)) hb); clear BK448; clear HB; have BK448 := n0_; have HB := n1_; clear n0_ n1_; (try clear hb); (try clear hb2); (try clear hk); (try clear hi); have hcz10_0 : w9.cell? ⟨gb448, 0, none⟩ = some (.string a0_0) := (blk_cell BK448.out 0).trans rfl; have hcz10_1 : w9.cell? ⟨gb448, 1, none⟩ = some (.slice A0_1 l0_1.length c0_1) := (blk_cell BK448.out 1).trans rfl; have hcz10_2 : w9.cell? ⟨gb448, 2, none⟩ = some (.string a0_2) := (blk_cell BK448.out 2).trans rfl; have hcz10_3 : w9.cell? ⟨gb448, 3, none⟩ = some (.int .u64 a0_3) := (blk_cell BK448.out 3).trans rfl; have hcz10_4 : w9.cell? ⟨gb448, 4, none⟩ = some (.string a0_4) := (blk_cell BK448.out 4).trans rfl; have hfz10_0 := blk_frozen BK448.out 0; have hfz10_1 := blk_frozen BK448.out 1; have hfz10_2 := blk_frozen BK448.out 2; have hfz10_3 := blk_frozen BK448.out 3; have hfz10_4 := blk_frozen BK448.out 4) | (go_at_call 33; (with_reducible refine (code_Hex.calls a0_0 t450 _ A4.out).mono ?_); rintro e w11 ⟨rfl, hb⟩; have n0_ := Aside0.mk (blk_below (g := gb448) (o := .cells #[.string a0_0, .slice A0_1 l0_1.length c0_1, .string a0_2, .int .u64 a0_3, .string a0_4] 25 (0, 0)) (by (with_reducible repeat (first | refine blk_drewN ?_ _ | refine blk_drew ?_ | refine blk_alloc ?_ _)); exact BK448.out) hb); have n1_ := Aside0.mk (below_step (by repeat (first | (with_reducible first | exact HB.out | apply below_alloc | apply pw_below_drewN | apply below_drew1 | refine below_set ?_ GE448.out) | exact HB.out)) hb); clear BK448; clear HB; have BK448 := n0_; have HB := n1_; clear n0_ n1_; (try clear hb); (try clear hb2); (try clear hk); (try clear hi); have hcz12_0 : w11.cell? ⟨gb448, 0, none⟩ = some (.string a0_0) := (blk_cell BK448.out 0).trans rfl; have hcz12_1 : w11.cell? ⟨gb448, 1, none⟩ = some (.slice A0_1 l0_1.length c0_1) := (blk_cell BK448.out 1).trans rfl; have hcz12_2 : w11.cell? ⟨gb448, 2, none⟩ = some (.string a0_2) := (blk_cell BK448.out 2).trans rfl; have hcz12_3 : w11.cell? ⟨gb448, 3, none⟩ = some (.int .u64 a0_3) := (blk_cell BK448.out 3).trans rfl; have hcz12_4 : w11.cell? ⟨gb448, 4, none⟩ = some (.string a0_4) := (blk_cell BK448.out 4).trans rfl; have hfz12_0 := blk_frozen BK448.out 0; have hfz12_1 := blk_frozen BK448.out 1; have hfz12_2 := blk_frozen BK448.out 2; have hfz12_3 := blk_frozen BK448.out 3; have hfz12_4 := blk_frozen BK448.out 4)))
    go_loopg [5, 21] k (fun kq v5 v21 w' => ∃ (x5_1 : ByteArray) (x21_1 : Int), v5 = .string x5_1 ∧ v21 = .int .i64 x21_1 ∧ Aside0 (object_PutCommit.l0 kq x5_1 l0_1 (l0_1.length : Int) x21_1 a0_0 l0_1 a0_2 a0_3 a0_4 = some (r1, r2)) ∧ Aside0 (kq ≤ k) ∧ Aside0 (w'.heap[gb448]? = some (.cells #[.string a0_0, (.slice A0_1 l0_1.length c0_1), .string a0_2, .int .u64 a0_3, .string a0_4] 25 (0, 0))) ∧ Aside0 (Below w.heap.size w w'))
    case atStart => exact ⟨(((⟨#[116, 114, 101, 101, 32]⟩ : ByteArray) ++ t450) ++ (⟨#[10]⟩ : ByteArray)), (0), (by first | rfl | (simp; done) | (simp [*]; done)), (by first | rfl | (simp; done) | (simp [*]; done)), H', ⟨Nat.le_refl _⟩, ⟨by (with_reducible repeat (first | refine blk_drewN ?_ _ | refine blk_drew ?_ | refine blk_alloc ?_ _)); exact BK448.out⟩, ⟨by repeat (first | (with_reducible first | exact HB.out | apply below_alloc | apply pw_below_drewN | apply below_drew1 | refine below_set ?_ GE448.out) | exact HB.out)⟩⟩
    case round =>
     clear H'
     try clear c1
     try clear p2
     try clear c3
     try clear c3b0
     try clear c3b1
     try clear c5
     try clear c5b0
     try clear c5b1
     try clear c5b2
     try clear c6
     try clear c6b0
     try clear c6b1
     try clear c6b2
     try clear hcz10_0
     try clear hcz10_1
     try clear hcz10_2
     try clear hcz10_3
     try clear hcz10_4
     try clear hcz12_0
     try clear hcz12_1
     try clear hcz12_2
     try clear hcz12_3
     try clear hcz12_4
     try clear hcz8_0
     try clear hcz8_1
     try clear hcz8_2
     try clear hcz8_3
     try clear hcz8_4
     try clear hfz10_0
     try clear hfz10_1
     try clear hfz10_2
     try clear hfz10_3
     try clear hfz10_4
     try clear hfz12_0
     try clear hfz12_1
     try clear hfz12_2
     try clear hfz12_3
     try clear hfz12_4
     try clear hfz8_0
     try clear hfz8_1
     try clear hfz8_2
     try clear hfz8_3
     try clear hfz8_4
     obtain ⟨x5_1, x21_1, rfl, rfl, HA, HK1, BK448, HB⟩ := hrel
     cases gk with
     | zero => exact absurd HA.out (by simp [object_PutCommit.l0])
     | succ k1 =>
      have H := HA.out
      clear HA
      simp only [object_PutCommit.l0] at H
      by_cases c13 : x21_1 < (l0_1.length : Int)
      ·
       rw [if_pos c13] at H
       have c13b0 : decide (x21_1 < (l0_1.length : Int)) = true := decide_eq_true c13
       clear c13
       by_cases c14 : 0 ≤ x21_1
       ·
        rw [if_pos c14] at H
        have c14b0 : decide (0 ≤ x21_1) = true := decide_eq_true c14
        clear c14
        by_cases c15 : x21_1 < (l0_1.length : Int)
        ·
         rw [if_pos c15] at H
         have c15b0 : decide (x21_1 < (l0_1.length : Int)) = true := decide_eq_true c15
         clear c15
         replace H := Option.bind_eq_some_iff.mp H
         obtain ⟨t452, A160, H⟩ := H
         replace H : (if 7 + t452.size ≤ 9223372036854775807 then (if (7 + t452.size) + 1 ≤ 9223372036854775807 then (if x5_1.size + ((7 + t452.size) + 1) ≤ 9223372036854775807 then (object_PutCommit.l0 k1 (x5_1 ++ (((⟨#[112, 97, 114, 101, 110, 116, 32]⟩ : ByteArray) ++ t452) ++ (⟨#[10]⟩ : ByteArray))) l0_1 (l0_1.length : Int) (wrap64 (x21_1 + 1)) a0_0 l0_1 a0_2 a0_3 a0_4) else (none)) else (none)) else (none)) = some (r1, r2) := H
         have A16 := Aside0.mk A160
         clear A160
         by_cases c17 : 7 + t452.size ≤ 9223372036854775807
         ·
          rw [if_pos c17] at H
          have c17b0 := eq_true c17
          have c17b1 : decide (7 + t452.size ≤ 9223372036854775807) = true := decide_eq_true c17
          try have c17b2 : (9223372036854775807 < 7 + t452.size) = False := eq_false (Nat.not_lt.2 c17)
          by_cases c18 : (7 + t452.size) + 1 ≤ 9223372036854775807
          ·
           rw [if_pos c18] at H
           have c18b0 := eq_true c18
           have c18b1 : decide ((7 + t452.size) + 1 ≤ 9223372036854775807) = true := decide_eq_true c18
           try have c18b2 : (9223372036854775807 < (7 + t452.size) + 1) = False := eq_false (Nat.not_lt.2 c18)
           by_cases c19 : x5_1.size + ((7 + t452.size) + 1) ≤ 9223372036854775807
           ·
            rw [if_pos c19] at H
            have c19b0 := eq_true c19
            have c19b1 : decide (x5_1.size + ((7 + t452.size) + 1) ≤ 9223372036854775807) = true := decide_eq_true c19
            try have c19b2 : (9223372036854775807 < x5_1.size + ((7 + t452.size) + 1)) = False := eq_false (Nat.not_lt.2 c19)
            have H' := Aside0.mk H
            clear H
            have p451 : 0 ≤ (x21_1 : Int) := of_decide_eq_true (by first | (with_reducible assumption) | assumption)
            have q451 : x21_1 < (l0_1.length : Int) := of_decide_eq_true (by first | (with_reducible assumption) | assumption)
            obtain ⟨ad451, e451, hx451_0⟩ := Kd.at_string HR0_1.out x21_1 p451 q451
            cases e451
            replace hx451_0 := (HB.out.cell (World.block_lt_of_cell? w _ hx451_0)).trans hx451_0
            replace p451 := eq_true p451
            replace q451 := eq_true q451
            go_wp2_with (first | (go_at_call 33; (with_reducible refine (code_Hex.calls (rdOf ByteArray.empty l0_1 x21_1) t452 _ A16.out).mono ?_); rintro e w20 ⟨rfl, hb⟩; have n0_ := Aside0.mk (blk_below (g := gb448) (o := .cells #[.string a0_0, .slice (some ad451) l0_1.length c0_1, .string a0_2, .int .u64 a0_3, .string a0_4] 25 (0, 0)) (by (with_reducible repeat (first | refine blk_drewN ?_ _ | refine blk_drew ?_ | refine blk_alloc ?_ _)); exact BK448.out) hb); have n1_ := Aside0.mk (below_step (by repeat (first | (with_reducible first | exact HB.out | apply below_alloc | apply pw_below_drewN | apply below_drew1 | refine below_set ?_ GE448.out) | exact HB.out)) hb); clear BK448; clear HB; have BK448 := n0_; have HB := n1_; clear n0_ n1_; (try clear hb); (try clear hb2); (try clear hk); (try clear hi)))
            repeat (go_quiet (first | (go_at_call 33; (with_reducible refine (code_Hex.calls (rdOf ByteArray.empty l0_1 x21_1) t452 _ A16.out).mono ?_); rintro e w20 ⟨rfl, hb⟩; have n0_ := Aside0.mk (blk_below (g := gb448) (o := .cells #[.string a0_0, .slice (some ad451) l0_1.length c0_1, .string a0_2, .int .u64 a0_3, .string a0_4] 25 (0, 0)) (by (with_reducible repeat (first | refine blk_drewN ?_ _ | refine blk_drew ?_ | refine blk_alloc ?_ _)); exact BK448.out) hb); have n1_ := Aside0.mk (below_step (by repeat (first | (with_reducible first | exact HB.out | apply below_alloc | apply pw_below_drewN | apply below_drew1 | refine below_set ?_ GE448.out) | exact HB.out)) hb); clear BK448; clear HB; have BK448 := n0_; have HB := n1_; clear n0_ n1_; (try clear hb); (try clear hb2); (try clear hk); (try clear hi))); try go_wp2_with (first | (go_at_call 33; (with_reducible refine (code_Hex.calls (rdOf ByteArray.empty l0_1 x21_1) t452 _ A16.out).mono ?_); rintro e w20 ⟨rfl, hb⟩; have n0_ := Aside0.mk (blk_below (g := gb448) (o := .cells #[.string a0_0, .slice (some ad451) l0_1.length c0_1, .string a0_2, .int .u64 a0_3, .string a0_4] 25 (0, 0)) (by (with_reducible repeat (first | refine blk_drewN ?_ _ | refine blk_drew ?_ | refine blk_alloc ?_ _)); exact BK448.out) hb); have n1_ := Aside0.mk (below_step (by repeat (first | (with_reducible first | exact HB.out | apply below_alloc | apply pw_below_drewN | apply below_drew1 | refine below_set ?_ GE448.out) | exact HB.out)) hb); clear BK448; clear HB; have BK448 := n0_; have HB := n1_; clear n0_ n1_; (try clear hb); (try clear hb2); (try clear hk); (try clear hi))))
            go_roundg k1
            case measure => have := HK1.out; omega
            case rel => exact ⟨(x5_1 ++ (((⟨#[112, 97, 114, 101, 110, 116, 32]⟩ : ByteArray) ++ t452) ++ (⟨#[10]⟩ : ByteArray))), (wrap64 (x21_1 + 1)), (by first | rfl | (simp; done) | (simp [*]; done)), (by first | rfl | (simp; done) | (simp [*]; done)), H', ⟨by have := HK1.out; omega⟩, ⟨by (with_reducible repeat (first | refine blk_drewN ?_ _ | refine blk_drew ?_ | refine blk_alloc ?_ _)); exact BK448.out⟩, ⟨by repeat (first | (with_reducible first | exact HB.out | apply below_alloc | apply pw_below_drewN | apply below_drew1 | refine below_set ?_ GE448.out) | exact HB.out)⟩⟩
           · rw [if_neg c19] at H
             exact absurd H (by simp)
          · rw [if_neg c18] at H
            exact absurd H (by simp)
         · rw [if_neg c17] at H
           exact absurd H (by simp)
        · rw [if_neg c15] at H
          exact absurd H (by simp)
       · rw [if_neg c14] at H
         exact absurd H (by simp)
      ·
       rw [if_neg c13] at H
       have c13b0 : decide (x21_1 < (l0_1.length : Int)) = false := decide_eq_false c13
       clear c13
       by_cases c21 : x5_1.size + 7 ≤ 9223372036854775807
       ·
        rw [if_pos c21] at H
        have c21b0 := eq_true c21
        have c21b1 : decide (x5_1.size + 7 ≤ 9223372036854775807) = true := decide_eq_true c21
        try have c21b2 : (9223372036854775807 < x5_1.size + 7) = False := eq_false (Nat.not_lt.2 c21)
        by_cases c22 : (x5_1 ++ (⟨#[97, 117, 116, 104, 111, 114, 32]⟩ : ByteArray)).size + a0_2.size ≤ 9223372036854775807
        ·
         rw [if_pos c22] at H
         have c22b0 := eq_true c22
         have c22b1 : decide ((x5_1 ++ (⟨#[97, 117, 116, 104, 111, 114, 32]⟩ : ByteArray)).size + a0_2.size ≤ 9223372036854775807) = true := decide_eq_true c22
         try have c22b2 : (9223372036854775807 < (x5_1 ++ (⟨#[97, 117, 116, 104, 111, 114, 32]⟩ : ByteArray)).size + a0_2.size) = False := eq_false (Nat.not_lt.2 c22)
         try have c22b3 : (9223372036854775807 < x5_1.size + 7 + a0_2.size) = False := eq_false (by have h_ := c22; simp only [ByteArray.size_append] at h_; first | exact Nat.not_lt.2 h_ | exact Nat.not_lt.2 (by simpa using h_))
         by_cases c23 : ((x5_1 ++ (⟨#[97, 117, 116, 104, 111, 114, 32]⟩ : ByteArray)) ++ a0_2).size + 6 ≤ 9223372036854775807
         ·
          rw [if_pos c23] at H
          have c23b0 := eq_true c23
          have c23b1 : decide (((x5_1 ++ (⟨#[97, 117, 116, 104, 111, 114, 32]⟩ : ByteArray)) ++ a0_2).size + 6 ≤ 9223372036854775807) = true := decide_eq_true c23
          try have c23b2 : (9223372036854775807 < ((x5_1 ++ (⟨#[97, 117, 116, 104, 111, 114, 32]⟩ : ByteArray)) ++ a0_2).size + 6) = False := eq_false (Nat.not_lt.2 c23)
          try have c23b3 : (9223372036854775807 < x5_1.size + 7 + a0_2.size + 6) = False := eq_false (by have h_ := c23; simp only [ByteArray.size_append] at h_; first | exact Nat.not_lt.2 h_ | exact Nat.not_lt.2 (by simpa using h_))
          replace H := Option.bind_eq_some_iff.mp H
          obtain ⟨t453, A240, H⟩ := H
          replace H : (if (((x5_1 ++ (⟨#[97, 117, 116, 104, 111, 114, 32]⟩ : ByteArray)) ++ a0_2) ++ (⟨#[10, 116, 105, 109, 101, 32]⟩ : ByteArray)).size + t453.size ≤ 9223372036854775807 then (if ((((x5_1 ++ (⟨#[97, 117, 116, 104, 111, 114, 32]⟩ : ByteArray)) ++ a0_2) ++ (⟨#[10, 116, 105, 109, 101, 32]⟩ : ByteArray)) ++ t453).size + 2 ≤ 9223372036854775807 then (if (((((x5_1 ++ (⟨#[97, 117, 116, 104, 111, 114, 32]⟩ : ByteArray)) ++ a0_2) ++ (⟨#[10, 116, 105, 109, 101, 32]⟩ : ByteArray)) ++ t453) ++ (⟨#[10, 10]⟩ : ByteArray)).size + a0_4.size ≤ 9223372036854775807 then (some ((((((x5_1 ++ (⟨#[97, 117, 116, 104, 111, 114, 32]⟩ : ByteArray)) ++ a0_2) ++ (⟨#[10, 116, 105, 109, 101, 32]⟩ : ByteArray)) ++ t453) ++ (⟨#[10, 10]⟩ : ByteArray)) ++ a0_4, 0)) else (none)) else (none)) else (none)) = some (r1, r2) := H
          have A24 := Aside0.mk A240
          clear A240
          by_cases c25 : (((x5_1 ++ (⟨#[97, 117, 116, 104, 111, 114, 32]⟩ : ByteArray)) ++ a0_2) ++ (⟨#[10, 116, 105, 109, 101, 32]⟩ : ByteArray)).size + t453.size ≤ 9223372036854775807
          ·
           rw [if_pos c25] at H
           have c25b0 := eq_true c25
           have c25b1 : decide ((((x5_1 ++ (⟨#[97, 117, 116, 104, 111, 114, 32]⟩ : ByteArray)) ++ a0_2) ++ (⟨#[10, 116, 105, 109, 101, 32]⟩ : ByteArray)).size + t453.size ≤ 9223372036854775807) = true := decide_eq_true c25
           try have c25b2 : (9223372036854775807 < (((x5_1 ++ (⟨#[97, 117, 116, 104, 111, 114, 32]⟩ : ByteArray)) ++ a0_2) ++ (⟨#[10, 116, 105, 109, 101, 32]⟩ : ByteArray)).size + t453.size) = False := eq_false (Nat.not_lt.2 c25)
           try have c25b3 : (9223372036854775807 < x5_1.size + 7 + a0_2.size + 6 + t453.size) = False := eq_false (by have h_ := c25; simp only [ByteArray.size_append] at h_; first | exact Nat.not_lt.2 h_ | exact Nat.not_lt.2 (by simpa using h_))
           by_cases c26 : ((((x5_1 ++ (⟨#[97, 117, 116, 104, 111, 114, 32]⟩ : ByteArray)) ++ a0_2) ++ (⟨#[10, 116, 105, 109, 101, 32]⟩ : ByteArray)) ++ t453).size + 2 ≤ 9223372036854775807
           ·
            rw [if_pos c26] at H
            have c26b0 := eq_true c26
            have c26b1 : decide (((((x5_1 ++ (⟨#[97, 117, 116, 104, 111, 114, 32]⟩ : ByteArray)) ++ a0_2) ++ (⟨#[10, 116, 105, 109, 101, 32]⟩ : ByteArray)) ++ t453).size + 2 ≤ 9223372036854775807) = true := decide_eq_true c26
            try have c26b2 : (9223372036854775807 < ((((x5_1 ++ (⟨#[97, 117, 116, 104, 111, 114, 32]⟩ : ByteArray)) ++ a0_2) ++ (⟨#[10, 116, 105, 109, 101, 32]⟩ : ByteArray)) ++ t453).size + 2) = False := eq_false (Nat.not_lt.2 c26)
            try have c26b3 : (9223372036854775807 < x5_1.size + 7 + a0_2.size + 6 + t453.size + 2) = False := eq_false (by have h_ := c26; simp only [ByteArray.size_append] at h_; first | exact Nat.not_lt.2 h_ | exact Nat.not_lt.2 (by simpa using h_))
            by_cases c27 : (((((x5_1 ++ (⟨#[97, 117, 116, 104, 111, 114, 32]⟩ : ByteArray)) ++ a0_2) ++ (⟨#[10, 116, 105, 109, 101, 32]⟩ : ByteArray)) ++ t453) ++ (⟨#[10, 10]⟩ : ByteArray)).size + a0_4.size ≤ 9223372036854775807
            ·
             rw [if_pos c27] at H
             have c27b0 := eq_true c27
             have c27b1 : decide ((((((x5_1 ++ (⟨#[97, 117, 116, 104, 111, 114, 32]⟩ : ByteArray)) ++ a0_2) ++ (⟨#[10, 116, 105, 109, 101, 32]⟩ : ByteArray)) ++ t453) ++ (⟨#[10, 10]⟩ : ByteArray)).size + a0_4.size ≤ 9223372036854775807) = true := decide_eq_true c27
             try have c27b2 : (9223372036854775807 < (((((x5_1 ++ (⟨#[97, 117, 116, 104, 111, 114, 32]⟩ : ByteArray)) ++ a0_2) ++ (⟨#[10, 116, 105, 109, 101, 32]⟩ : ByteArray)) ++ t453) ++ (⟨#[10, 10]⟩ : ByteArray)).size + a0_4.size) = False := eq_false (Nat.not_lt.2 c27)
             try have c27b3 : (9223372036854775807 < x5_1.size + 7 + a0_2.size + 6 + t453.size + 2 + a0_4.size) = False := eq_false (by have h_ := c27; simp only [ByteArray.size_append] at h_; first | exact Nat.not_lt.2 h_ | exact Nat.not_lt.2 (by simpa using h_))
             simp only [Option.some.injEq, Prod.mk.injEq] at H
             obtain ⟨rfl, rfl⟩ := H
             have hcz28_0 : wr.cell? ⟨gb448, 0, none⟩ = some (.string a0_0) := (blk_cell BK448.out 0).trans rfl
             have hcz28_1 : wr.cell? ⟨gb448, 1, none⟩ = some (.slice A0_1 l0_1.length c0_1) := (blk_cell BK448.out 1).trans rfl
             have hcz28_2 : wr.cell? ⟨gb448, 2, none⟩ = some (.string a0_2) := (blk_cell BK448.out 2).trans rfl
             have hcz28_3 : wr.cell? ⟨gb448, 3, none⟩ = some (.int .u64 a0_3) := (blk_cell BK448.out 3).trans rfl
             have hcz28_4 : wr.cell? ⟨gb448, 4, none⟩ = some (.string a0_4) := (blk_cell BK448.out 4).trans rfl
             have hfz28_0 := blk_frozen BK448.out 0
             have hfz28_1 := blk_frozen BK448.out 1
             have hfz28_2 := blk_frozen BK448.out 2
             have hfz28_3 := blk_frozen BK448.out 3
             have hfz28_4 := blk_frozen BK448.out 4
             go_wp2_with (first | (go_at_call 34; (with_reducible refine (code_Dec.calls k1 a0_3 t453 _ A24.out).mono ?_); rintro e w' ⟨rfl, ⟨nd, rfl⟩⟩; (try first | exact ⟨rfl, _, World.drewN_drewN _ _ _⟩ | exact ⟨rfl, _, Eq.trans (World.drewN_drewN _ _ _) (congrArg (World.drewN _) (Nat.add_assoc _ _ _))⟩)))
             repeat (go_quiet (first | (go_at_call 34; (with_reducible refine (code_Dec.calls k1 a0_3 t453 _ A24.out).mono ?_); rintro e w' ⟨rfl, ⟨nd, rfl⟩⟩; (try first | exact ⟨rfl, _, World.drewN_drewN _ _ _⟩ | exact ⟨rfl, _, Eq.trans (World.drewN_drewN _ _ _) (congrArg (World.drewN _) (Nat.add_assoc _ _ _))⟩))); try go_wp2_with (first | (go_at_call 34; (with_reducible refine (code_Dec.calls k1 a0_3 t453 _ A24.out).mono ?_); rintro e w' ⟨rfl, ⟨nd, rfl⟩⟩; (try first | exact ⟨rfl, _, World.drewN_drewN _ _ _⟩ | exact ⟨rfl, _, Eq.trans (World.drewN_drewN _ _ _) (congrArg (World.drewN _) (Nat.add_assoc _ _ _))⟩))))
             go_ret2
             exact ⟨by first | rfl | (simp [errW_none, errW_some] <;> rfl) | (simp [*, errW_none, errW_some] <;> rfl), by repeat (first | (with_reducible first | exact HB.out | apply below_alloc | apply pw_below_drewN | apply below_drew1 | refine below_set ?_ GE448.out) | exact HB.out)⟩
            · rw [if_neg c27] at H
              exact absurd H (by simp)
           · rw [if_neg c26] at H
             exact absurd H (by simp)
          · rw [if_neg c25] at H
            exact absurd H (by simp)
         · rw [if_neg c23] at H
           exact absurd H (by simp)
        · rw [if_neg c22] at H
          exact absurd H (by simp)
       · rw [if_neg c21] at H
         exact absurd H (by simp)
   · rw [if_neg c6] at H
     exact absurd H (by simp)
  · rw [if_neg c5] at H
    exact absurd H (by simp)
 · rw [if_neg c3] at H
   have c3b0 : (t449 == 0) = false := beq_eq_false_iff_ne.mpr c3
   have c3b1 : (t449 != 0) = true := bne_iff_ne.mpr c3
   simp only [Option.some.injEq, Prod.mk.injEq] at H
   obtain ⟨rfl, rfl⟩ := H
   go_enter Tryd.func14, Tryd.ntmps14
   go_wp2_with (first | ((with_reducible refine gate_dst (N := 1) rfl ?_); refine box_event ?hg (N := 1) ?hd (cs := #[.string a0_0, .slice A0_1 l0_1.length c0_1, .string a0_2, .int .u64 a0_3, .string a0_4]) (t := 25) ?hr ?_; (case hd => rfl); (case hg => rfl); (case hr => first | (go_simp; done) | (go_simp; rfl) | (go_simp; simp only [show ∀ x_ : Int, IntKind.u8.wrap x_ = x_ % 256 from fun _ => rfl, Int.add_emod_emod, Int.emod_add_emod, Int.emod_emod]; done)); intro gb448 hg w29 hbox hb; have n0_ := Aside0.mk (below_step (by repeat (first | (with_reducible first | exact HB.out | apply below_alloc | apply pw_below_drewN | apply below_drew1) | exact HB.out)) hb); have n1_ := Aside0.mk (hbox); have n2_ := Aside0.mk ((by rw [hg]; exact (below_size (by repeat (first | (with_reducible first | exact HB.out | apply below_alloc | apply pw_below_drewN | apply below_drew1) | exact HB.out))) : w.heap.size ≤ gb448)); have n3_ := Aside0.mk ((by rw [hg]; exact (below_size (by repeat (first | (with_reducible first | exact HB.out | apply below_alloc | apply pw_below_drewN | apply below_drew1) | exact HB.out))) : w.heap.size ≤ gb448)); clear HB; have HB := n0_; have BK448 := n1_; have GW448 := n2_; have GE448 := n3_; clear n0_ n1_ n2_ n3_; clear hb hbox hg; have hcz30_0 : w29.cell? ⟨gb448, 0, none⟩ = some (.string a0_0) := (blk_cell BK448.out 0).trans rfl; have hcz30_1 : w29.cell? ⟨gb448, 1, none⟩ = some (.slice A0_1 l0_1.length c0_1) := (blk_cell BK448.out 1).trans rfl; have hcz30_2 : w29.cell? ⟨gb448, 2, none⟩ = some (.string a0_2) := (blk_cell BK448.out 2).trans rfl; have hcz30_3 : w29.cell? ⟨gb448, 3, none⟩ = some (.int .u64 a0_3) := (blk_cell BK448.out 3).trans rfl; have hcz30_4 : w29.cell? ⟨gb448, 4, none⟩ = some (.string a0_4) := (blk_cell BK448.out 4).trans rfl; have hfz30_0 := blk_frozen BK448.out 0; have hfz30_1 := blk_frozen BK448.out 1; have hfz30_2 := blk_frozen BK448.out 2; have hfz30_3 := blk_frozen BK448.out 3; have hfz30_4 := blk_frozen BK448.out 4) | (go_at_call 15; (with_reducible refine (object_CheckCommit.calls k a0_0 _ _ l0_1 a0_2 a0_3 a0_4 t449 _ ?side1 ?side2 A2.out).mono ?_); (case side1 => repeat (first | exact (Kd.C_below HR0_1.out HB.out) | (with_reducible refine Kd.C_alloc ?_ _) | (with_reducible refine Kd.C_drewN ?_ _) | (with_reducible refine Kd.C_drew ?_))); (case side2 => exact HC0_1.out); rintro e w31 ⟨rfl, hb⟩; have n0_ := Aside0.mk (blk_below (g := gb448) (o := .cells #[.string a0_0, .slice A0_1 l0_1.length c0_1, .string a0_2, .int .u64 a0_3, .string a0_4] 25 (0, 0)) (by (with_reducible repeat (first | refine blk_drewN ?_ _ | refine blk_drew ?_ | refine blk_alloc ?_ _)); exact BK448.out) hb); have n1_ := Aside0.mk (below_step (by repeat (first | (with_reducible first | exact HB.out | apply below_alloc | apply pw_below_drewN | apply below_drew1 | refine below_set ?_ GE448.out) | exact HB.out)) hb); clear BK448; clear HB; have BK448 := n0_; have HB := n1_; clear n0_ n1_; (try clear hb); (try clear hb2); (try clear hk); (try clear hi)))
   repeat (go_quiet (first | ((with_reducible refine gate_dst (N := 1) rfl ?_); refine box_event ?hg (N := 1) ?hd (cs := #[.string a0_0, .slice A0_1 l0_1.length c0_1, .string a0_2, .int .u64 a0_3, .string a0_4]) (t := 25) ?hr ?_; (case hd => rfl); (case hg => rfl); (case hr => first | (go_simp; done) | (go_simp; rfl) | (go_simp; simp only [show ∀ x_ : Int, IntKind.u8.wrap x_ = x_ % 256 from fun _ => rfl, Int.add_emod_emod, Int.emod_add_emod, Int.emod_emod]; done)); intro gb448 hg w29 hbox hb; have n0_ := Aside0.mk (below_step (by repeat (first | (with_reducible first | exact HB.out | apply below_alloc | apply pw_below_drewN | apply below_drew1) | exact HB.out)) hb); have n1_ := Aside0.mk (hbox); have n2_ := Aside0.mk ((by rw [hg]; exact (below_size (by repeat (first | (with_reducible first | exact HB.out | apply below_alloc | apply pw_below_drewN | apply below_drew1) | exact HB.out))) : w.heap.size ≤ gb448)); have n3_ := Aside0.mk ((by rw [hg]; exact (below_size (by repeat (first | (with_reducible first | exact HB.out | apply below_alloc | apply pw_below_drewN | apply below_drew1) | exact HB.out))) : w.heap.size ≤ gb448)); clear HB; have HB := n0_; have BK448 := n1_; have GW448 := n2_; have GE448 := n3_; clear n0_ n1_ n2_ n3_; clear hb hbox hg; have hcz30_0 : w29.cell? ⟨gb448, 0, none⟩ = some (.string a0_0) := (blk_cell BK448.out 0).trans rfl; have hcz30_1 : w29.cell? ⟨gb448, 1, none⟩ = some (.slice A0_1 l0_1.length c0_1) := (blk_cell BK448.out 1).trans rfl; have hcz30_2 : w29.cell? ⟨gb448, 2, none⟩ = some (.string a0_2) := (blk_cell BK448.out 2).trans rfl; have hcz30_3 : w29.cell? ⟨gb448, 3, none⟩ = some (.int .u64 a0_3) := (blk_cell BK448.out 3).trans rfl; have hcz30_4 : w29.cell? ⟨gb448, 4, none⟩ = some (.string a0_4) := (blk_cell BK448.out 4).trans rfl; have hfz30_0 := blk_frozen BK448.out 0; have hfz30_1 := blk_frozen BK448.out 1; have hfz30_2 := blk_frozen BK448.out 2; have hfz30_3 := blk_frozen BK448.out 3; have hfz30_4 := blk_frozen BK448.out 4) | (go_at_call 15; (with_reducible refine (object_CheckCommit.calls k a0_0 _ _ l0_1 a0_2 a0_3 a0_4 t449 _ ?side1 ?side2 A2.out).mono ?_); (case side1 => repeat (first | exact (Kd.C_below HR0_1.out HB.out) | (with_reducible refine Kd.C_alloc ?_ _) | (with_reducible refine Kd.C_drewN ?_ _) | (with_reducible refine Kd.C_drew ?_))); (case side2 => exact HC0_1.out); rintro e w31 ⟨rfl, hb⟩; have n0_ := Aside0.mk (blk_below (g := gb448) (o := .cells #[.string a0_0, .slice A0_1 l0_1.length c0_1, .string a0_2, .int .u64 a0_3, .string a0_4] 25 (0, 0)) (by (with_reducible repeat (first | refine blk_drewN ?_ _ | refine blk_drew ?_ | refine blk_alloc ?_ _)); exact BK448.out) hb); have n1_ := Aside0.mk (below_step (by repeat (first | (with_reducible first | exact HB.out | apply below_alloc | apply pw_below_drewN | apply below_drew1 | refine below_set ?_ GE448.out) | exact HB.out)) hb); clear BK448; clear HB; have BK448 := n0_; have HB := n1_; clear n0_ n1_; (try clear hb); (try clear hb2); (try clear hk); (try clear hi))); try go_wp2_with (first | ((with_reducible refine gate_dst (N := 1) rfl ?_); refine box_event ?hg (N := 1) ?hd (cs := #[.string a0_0, .slice A0_1 l0_1.length c0_1, .string a0_2, .int .u64 a0_3, .string a0_4]) (t := 25) ?hr ?_; (case hd => rfl); (case hg => rfl); (case hr => first | (go_simp; done) | (go_simp; rfl) | (go_simp; simp only [show ∀ x_ : Int, IntKind.u8.wrap x_ = x_ % 256 from fun _ => rfl, Int.add_emod_emod, Int.emod_add_emod, Int.emod_emod]; done)); intro gb448 hg w29 hbox hb; have n0_ := Aside0.mk (below_step (by repeat (first | (with_reducible first | exact HB.out | apply below_alloc | apply pw_below_drewN | apply below_drew1) | exact HB.out)) hb); have n1_ := Aside0.mk (hbox); have n2_ := Aside0.mk ((by rw [hg]; exact (below_size (by repeat (first | (with_reducible first | exact HB.out | apply below_alloc | apply pw_below_drewN | apply below_drew1) | exact HB.out))) : w.heap.size ≤ gb448)); have n3_ := Aside0.mk ((by rw [hg]; exact (below_size (by repeat (first | (with_reducible first | exact HB.out | apply below_alloc | apply pw_below_drewN | apply below_drew1) | exact HB.out))) : w.heap.size ≤ gb448)); clear HB; have HB := n0_; have BK448 := n1_; have GW448 := n2_; have GE448 := n3_; clear n0_ n1_ n2_ n3_; clear hb hbox hg; have hcz30_0 : w29.cell? ⟨gb448, 0, none⟩ = some (.string a0_0) := (blk_cell BK448.out 0).trans rfl; have hcz30_1 : w29.cell? ⟨gb448, 1, none⟩ = some (.slice A0_1 l0_1.length c0_1) := (blk_cell BK448.out 1).trans rfl; have hcz30_2 : w29.cell? ⟨gb448, 2, none⟩ = some (.string a0_2) := (blk_cell BK448.out 2).trans rfl; have hcz30_3 : w29.cell? ⟨gb448, 3, none⟩ = some (.int .u64 a0_3) := (blk_cell BK448.out 3).trans rfl; have hcz30_4 : w29.cell? ⟨gb448, 4, none⟩ = some (.string a0_4) := (blk_cell BK448.out 4).trans rfl; have hfz30_0 := blk_frozen BK448.out 0; have hfz30_1 := blk_frozen BK448.out 1; have hfz30_2 := blk_frozen BK448.out 2; have hfz30_3 := blk_frozen BK448.out 3; have hfz30_4 := blk_frozen BK448.out 4) | (go_at_call 15; (with_reducible refine (object_CheckCommit.calls k a0_0 _ _ l0_1 a0_2 a0_3 a0_4 t449 _ ?side1 ?side2 A2.out).mono ?_); (case side1 => repeat (first | exact (Kd.C_below HR0_1.out HB.out) | (with_reducible refine Kd.C_alloc ?_ _) | (with_reducible refine Kd.C_drewN ?_ _) | (with_reducible refine Kd.C_drew ?_))); (case side2 => exact HC0_1.out); rintro e w31 ⟨rfl, hb⟩; have n0_ := Aside0.mk (blk_below (g := gb448) (o := .cells #[.string a0_0, .slice A0_1 l0_1.length c0_1, .string a0_2, .int .u64 a0_3, .string a0_4] 25 (0, 0)) (by (with_reducible repeat (first | refine blk_drewN ?_ _ | refine blk_drew ?_ | refine blk_alloc ?_ _)); exact BK448.out) hb); have n1_ := Aside0.mk (below_step (by repeat (first | (with_reducible first | exact HB.out | apply below_alloc | apply pw_below_drewN | apply below_drew1 | refine below_set ?_ GE448.out) | exact HB.out)) hb); clear BK448; clear HB; have BK448 := n0_; have HB := n1_; clear n0_ n1_; (try clear hb); (try clear hb2); (try clear hk); (try clear hi))))
   go_ret2
   exact ⟨by first | rfl | (simp [errW_none, errW_some] <;> rfl) | (simp [*, errW_none, errW_some] <;> rfl), by repeat (first | (with_reducible first | exact HB.out | apply below_alloc | apply pw_below_drewN | apply below_drew1 | refine below_set ?_ GE448.out) | exact HB.out)⟩

end Go.Proofs.YtnapcfpecpgdbaaDoor.M
