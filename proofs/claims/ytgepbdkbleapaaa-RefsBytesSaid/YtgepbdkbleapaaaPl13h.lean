/- Bytes as digits both ways, and a text cut at a byte: what the program and the reference come to. -/
import Derived.Test.YtgepbdkbleapaaaPlBytes
import Derived.Test.YtgepbdkbleapaaaMx13
import Derived.Test.YtgepbdkbleapaaaMx11
import Derived.Test.YtgepbdkbleapaaaMx15
import Derived.Test.YtgepbdkbleapaaaMx14
import Derived.Test.YtgepbdkbleapaaaMx12
namespace Go.Proofs.Ytgepbdkbleapaaa.Pl
set_option linter.unusedVariables false
set_option linter.unusedSimpArgs false
open Go.RowKit Go.Proofs.Ytgepbdkbleapaaa.M Go.Proofs.YtgepbdkbleapaaaW.PrintWords Go.Proofs.YtgepbdkbleapaaaW.PrintLast

def mk (l : List UInt8) : ByteArray := ⟨l.toArray⟩
theorem toList_mk (l : List UInt8) : (mk l).toList = l := toList_lit l
theorem mk_toList (s : ByteArray) : mk s.toList = s := ba_ext (toList_mk _)
theorem mk_size (l : List UInt8) : (mk l).size = l.length := by rw [← toList_length, toList_mk]
theorem mk_append (a b : List UInt8) : mk a ++ mk b = mk (a ++ b) := ba_ext (by rw [toList_append, toList_mk, toList_mk, toList_mk])
def ints (l : List UInt8) : List Int := l.map fun b => (b.toNat : Int)
theorem bytesOf_ints (s : ByteArray) : bytesOf s = ints s.toList := by rw [toList_eq]; rfl
/-- strings.Cut at a byte. -/
def cutV (s : ByteArray) (c : UInt8) : ByteArray × ByteArray × Bool := if 0 ≤ Lib.indexByte s.toList c then (s.extract 0 (Lib.indexByte s.toList c).toNat, s.extract ((Lib.indexByte s.toList c).toNat + 1) s.size, true) else (s, (⟨#[]⟩ : ByteArray), false)
theorem cut_eq (s : ByteArray) (c : UInt8) (hs : s.size ≤ 140737488351232) : strings_Cut.f s ⟨#[c]⟩ = some (cutV s c) := by
  unfold strings_Cut.f cutV
  rw [if_pos ⟨rfl, hs⟩, toList_eq]
  show (if 0 ≤ Lib.indexByte s.data.toList c then _ else _) = _
  split <;> rfl
theorem cut_mk (l r : List UInt8) (c : UInt8) (h : c ∉ l) : cutV (mk (l ++ c :: r)) c = (mk l, mk r, true) := by
  unfold cutV
  rw [toList_mk, index_first l r c h, if_pos (by omega), Int.toNat_natCast]
  congr 1
  · apply ba_ext
    rw [toList_extract, toList_mk, toList_mk, List.drop_zero, Nat.sub_zero, List.take_left]
  · congr 1
    apply ba_ext
    rw [toList_from, toList_mk, toList_mk]
    rw [show l ++ c :: r = (l ++ [c]) ++ r by rw [List.append_assoc]; rfl]
    exact List.drop_left' (by simp)
/-- What a digit is worth; 16: it is none. -/
def hv (c : UInt8) : Nat := if 48 ≤ c.toNat ∧ c.toNat ≤ 57 then c.toNat - 48 else if 97 ≤ c.toNat ∧ c.toNat ≤ 102 then c.toNat - 87 else 16
def hd (n : Nat) : UInt8 := UInt8.ofNat (if n < 10 then 48 + n else 87 + n)
/-- The bytes of digits. -/
def unhexL : List UInt8 → Option (List UInt8)
  | [] => some []
  | [_] => none
  | a :: b :: cs => if hv a < 16 ∧ hv b < 16 then (unhexL cs).map (UInt8.ofNat (16 * hv a + hv b) :: ·) else none
/-- Bytes as digits. -/
def hexL : List UInt8 → List UInt8
  | [] => []
  | c :: cs => hd (c.toNat / 16) :: hd (c.toNat % 16) :: hexL cs
theorem hv_le (c : UInt8) : hv c ≤ 16 := by
  unfold hv
  split
  · omega
  · split <;> omega
theorem val_hv (c : UInt8) : code_Unhex.val (c.toNat : Int) = if hv c < 16 then (hv c : Int) else -1 := by
  have h : ∀ n : Fin 256, code_Unhex.val (((UInt8.ofNat n.1).toNat : Nat) : Int) = if hv (UInt8.ofNat n.1) < 16 then (hv (UInt8.ofNat n.1) : Int) else -1 := by decide +kernel
  have := h ⟨c.toNat, c.toNat_lt⟩
  simpa using this
theorem unhex_go : ∀ (l : List UInt8) (i : Nat) (acc : List Int), i % 2 = 0 → l.length % 2 = 0 → code_Unhex.go i (ints l) acc = (unhexL l).map fun r => acc ++ ints r
  | [], i, acc, hi, hl => by
    rw [ints, List.map_nil, code_Unhex.go, unhexL, Option.map_some, ints, List.map_nil, List.append_nil]
  | [a], i, acc, hi, hl => by simp at hl
  | a :: b :: cs, i, acc, hi, hl => by
    have ha := hv_le a
    have hb := hv_le b
    rw [ints, List.map_cons, List.map_cons, code_Unhex.go, val_hv]
    rw [unhexL]
    by_cases h1 : hv a < 16
    · rw [if_pos h1, if_neg (by omega), if_pos hi, code_Unhex.go, val_hv]
      by_cases h2 : hv b < 16
      · rw [if_pos h2, if_neg (by omega), if_neg (by omega), if_pos ⟨h1, h2⟩]
        have e : (acc ++ [(hv a : Int) * 16]).set ((acc ++ [(hv a : Int) * 16]).length - 1) (IntKind.u8.wrap (rd (acc ++ [(hv a : Int) * 16]) (((acc ++ [(hv a : Int) * 16]).length : Int) - 1) + IntKind.u8.wrap (hv b : Int))) = acc ++ [(((UInt8.ofNat (16 * hv a + hv b)).toNat : Nat) : Int)] := by
          have hl1 : (acc ++ [(hv a : Int) * 16]).length = acc.length + 1 := by simp
          rw [hl1]
          have hr : rd (acc ++ [(hv a : Int) * 16]) (((acc.length + 1 : Nat) : Int) - 1) = (hv a : Int) * 16 := by
            unfold rd
            rw [show ((((acc.length + 1 : Nat) : Int) - 1).toNat) = acc.length by omega]
            simp
          rw [hr, Nat.add_sub_cancel, List.set_append_right _ _ (Nat.le_refl _), Nat.sub_self, List.set_cons_zero, IntKind.wrap_u8, IntKind.wrap_u8, UInt8.toNat_ofNat']
          congr 2
          omega
        rw [e]
        have ih := unhex_go cs (i + 1 + 1) (acc ++ [(((UInt8.ofNat (16 * hv a + hv b)).toNat : Nat) : Int)]) (by omega) (by simp only [List.length_cons] at hl; omega)
        rw [ints] at ih
        rw [ih]
        cases unhexL cs with
        | none => rfl
        | some r => simp [ints]
      · rw [if_neg h2, if_pos (by omega), if_neg (fun h => h2 h.2)]
        rfl
    · rw [if_neg h1, if_pos (by omega), if_neg (fun h => h1 h.1)]
      rfl
theorem unhexL_odd : ∀ l : List UInt8, l.length % 2 = 1 → unhexL l = none
  | [], h => by simp at h
  | [_], _ => rfl
  | a :: b :: cs, h => by
    rw [unhexL, unhexL_odd cs (by simp only [List.length_cons] at h; omega)]
    split <;> rfl
theorem nums_ints (r : List UInt8) : strOfNums (ints r) = mk r := by
  unfold strOfNums ints mk
  congr 2
  rw [List.map_map]
  conv => rhs; rw [← List.map_id r]
  apply List.map_congr_left
  intro c _
  simp
def unhexV (l : List UInt8) : ByteArray × Int := match unhexL l with
  | none => (⟨#[]⟩, 6)
  | some r => (mk r, 0)
theorem unhex_prog (s : ByteArray) (hs : s.size ≤ 70368744177664) : code_Unhex.f s = some (unhexV s.toList) := by
  unfold code_Unhex.f unhexV
  rw [if_pos hs]
  by_cases h : s.size % 2 = 0
  · rw [if_pos h, bytesOf_ints, unhex_go s.toList 0 [] rfl (by rw [toList_length]; exact h)]
    cases unhexL s.toList with
    | none => rfl
    | some r =>
      simp only [Option.map_some, List.nil_append, nums_ints]
  · rw [if_neg h, unhexL_odd _ (by rw [toList_length]; omega)]
theorem bt_drop {s : ByteArray} {i : Nat} {c : UInt8} {cs : List UInt8} (h : s.toList.drop i = c :: cs) : bt s (i : Int) = (c.toNat : Int) ∧ i < s.size ∧ s.toList.drop (i + 1) = cs := by
  have hlt : i < s.toList.length := by
    rcases Nat.lt_or_ge i s.toList.length with h1 | h1
    · exact h1
    · rw [List.drop_eq_nil_of_le h1] at h
      cases h
  rw [List.drop_eq_getElem_cons hlt] at h
  injection h with h1 h2
  refine ⟨?_, by rw [← toList_length]; exact hlt, h2⟩
  rw [bt_toList s i (by rw [← toList_length]; exact hlt), h1]
theorem hv_hd : ∀ n : Nat, n < 16 → hv (hd n) = n := by
  have h : ∀ n : Fin 16, hv (hd n.1) = n.1 := by decide
  exact fun n hn => h ⟨n, hn⟩
theorem hd_hv (c : UInt8) (h : hv c < 16) : hd (hv c) = c := by
  have h0 : ∀ n : Fin 256, hv (UInt8.ofNat n.1) < 16 → hd (hv (UInt8.ofNat n.1)) = UInt8.ofNat n.1 := by decide +kernel
  have := h0 ⟨c.toNat, c.toNat_lt⟩
  simp only [UInt8.ofNat_toNat] at this
  exact this h
theorem unhex_hex : ∀ l : List UInt8, unhexL (hexL l) = some l
  | [] => rfl
  | c :: cs => by
    have hc := c.toNat_lt
    rw [hexL, unhexL, hv_hd _ (by omega), hv_hd _ (by omega), if_pos (by omega), unhex_hex cs, Option.map_some]
    congr 2
    rw [show 16 * (c.toNat / 16) + c.toNat % 16 = c.toNat by omega]
    simp
theorem hexL_length : ∀ l : List UInt8, (hexL l).length = 2 * l.length
  | [] => rfl
  | c :: cs => by rw [hexL, List.length_cons, List.length_cons, hexL_length cs, List.length_cons]; omega
theorem ref_digit (d : Nat) (h : d < 10) : pollardref02_digit.f (d : Int) = some (mk [UInt8.ofNat (48 + d)]) := by
  unfold pollardref02_digit.f
  rw [if_pos (by omega), w64 (by omega) (by omega), strOfNums]
  have e : ((48 + (d : Int)) % 256).toNat = 48 + d := by omega
  simp only [List.map_cons, List.map_nil, e]
  rfl
theorem ref_digit16 (d : Nat) (h : d < 16) : pollardref02_digit.f (d : Int) = some (mk [hd d]) := by
  by_cases h10 : d < 10
  · rw [ref_digit d h10, hd, if_pos h10]
  · unfold pollardref02_digit.f
    rw [if_neg (by omega), w64 (by omega) (by omega), strOfNums, hd, if_neg h10]
    have e : ((87 + (d : Int)) % 256).toNat = 87 + d := by omega
    simp only [List.map_cons, List.map_nil, e]
    rfl
theorem hex_l0 (s : ByteArray) (hs : s.size ≤ 1099511627776) : ∀ (l : List UInt8) (i : Nat) (r : List UInt8), r.length = 2 * i → s.toList.drop i = l → Ev (fun k => pollardref02_Hex.l0 k s (mk r) (i : Int)) (mk (r ++ hexL l))
  | [], i, r, hr, hl => by
    have hle : s.size ≤ i := by
      rw [← toList_length]
      exact List.drop_eq_nil_iff.mp hl
    refine Ev.step (f := fun _ => some (mk r)) (fun k => ?_) ?_
    · rw [pollardref02_Hex.l0, if_neg (by omega)]
    · rw [hexL, List.append_nil]
      exact Ev.now _
  | c :: cs, i, r, hr, hl => by
    obtain ⟨hc, hlt, hl2⟩ := bt_drop hl
    have hcl := c.toNat_lt
    have hq : Int.tdiv (c.toNat : Int) 16 = ((c.toNat / 16 : Nat) : Int) := rfl
    have hm : Int.tmod (c.toNat : Int) 16 = ((c.toNat % 16 : Nat) : Int) := rfl
    refine Ev.step (f := fun k => pollardref02_Hex.l0 k s (mk (r ++ [hd (c.toNat / 16), hd (c.toNat % 16)])) ((i + 1 : Nat) : Int)) (fun k => ?_) ?_
    · rw [pollardref02_Hex.l0, if_pos (by omega), if_pos (by omega), hc, w64 (x := (c.toNat : Int)) (by omega) (by omega), hq, hm, w64 (by omega) (by omega), ref_digit16 _ (by omega), ref_digit16 _ (by omega), Option.bind_some, Option.bind_some, mk_append, mk_append, mk_size, mk_size, mk_size, mk_size, if_pos (by simp), if_pos (by simp; omega), w64 (by omega) (by omega)]
      rfl
    · have ih := hex_l0 s hs cs (i + 1) (r ++ [hd (c.toNat / 16), hd (c.toNat % 16)]) (by rw [List.length_append, hr]; rfl) hl2
      rw [List.append_assoc] at ih
      exact ih
theorem hex_ref (s : ByteArray) (hs : s.size ≤ 1099511627776) : Ev (fun k => pollardref02_Hex.f k s) (mk (hexL s.toList)) := by
  have := hex_l0 s hs s.toList 0 [] rfl rfl
  rw [List.nil_append] at this
  exact this
theorem out_hexL : ∀ l : List UInt8, code_Hex.out l = hexL l
  | [] => rfl
  | c :: cs => by
    have hc := c.toNat_lt
    have h : ∀ n : Fin 16, code_Hex.dg n.1 = hd n.1 := by decide
    rw [code_Hex.out, hexL, out_hexL cs, h ⟨c.toNat / 16, by omega⟩, h ⟨c.toNat % 16, by omega⟩]
theorem hex_prog (s : ByteArray) (hs : s.size ≤ 1099511627776) : code_Hex.f s = some (mk (hexL s.toList)) := by
  unfold code_Hex.f
  rw [if_pos hs, out_hexL, ← toList_eq]
  rfl
theorem hexL_no10 : ∀ l : List UInt8, (10 : UInt8) ∉ hexL l
  | [] => by simp [hexL]
  | c :: cs => by
    have h : ∀ n : Fin 16, hd n.1 ≠ 10 := by decide
    have hc := c.toNat_lt
    intro hm
    rw [hexL] at hm
    rcases List.mem_cons.mp hm with hm | hm
    · exact h ⟨c.toNat / 16, by omega⟩ hm.symm
    · rcases List.mem_cons.mp hm with hm | hm
      · exact h ⟨c.toNat % 16, by omega⟩ hm.symm
      · exact hexL_no10 cs hm
end Go.Proofs.Ytgepbdkbleapaaa.Pl
