/- Bytes as digits and back: what the program and the reference come to. -/
import Derived.Test.YtnapcfpecpgdbaaDoorPl07b
import Derived.Test.YtnapcfpecpgdbaaDoorMx8
import Derived.Test.YtnapcfpecpgdbaaDoorMx19
import Derived.Test.YtnapcfpecpgdbaaDoorMx20
namespace Go.Proofs.YtnapcfpecpgdbaaDoor.Pl
set_option linter.unusedVariables false
set_option linter.unusedSimpArgs false
open Go.RowKit Go.Proofs.YtnapcfpecpgdbaaDoor.M Go.Proofs.YtnapcfpecpgdbaaDoorW.PrintWords Go.Proofs.YtnapcfpecpgdbaaDoorW.PrintLast

/-- What a digit is worth; 16: it is none. -/
def hv (c : UInt8) : Nat := if 48 ≤ c.toNat ∧ c.toNat ≤ 57 then c.toNat - 48 else if 97 ≤ c.toNat ∧ c.toNat ≤ 102 then c.toNat - 87 else 16
def hd (n : Nat) : UInt8 := UInt8.ofNat (if n < 10 then 48 + n else 87 + n)
/-- The bytes of digits. -/
def unhexL : List UInt8 → Option (List UInt8)
 | [] => some []
 | [_] => none
 | a :: b :: cs => if hv a < 16 ∧ hv b < 16 then (unhexL cs).map (UInt8.ofNat (16 * hv a + hv b) :: ·) else none
/-- Bytes as digits. -/
def hexL : List UInt8 → List UInt8
 | [] => []
 | c :: cs => hd (c.toNat / 16) :: hd (c.toNat % 16) :: hexL cs
theorem hv_le (c : UInt8) : hv c ≤ 16 := by
 unfold hv
 split
 · omega
 · split <;> omega
theorem val_hv (c : UInt8) : code_Unhex.val (c.toNat : Int) = if hv c < 16 then (hv c : Int) else -1 := by
 have h : ∀ n : Fin 256, code_Unhex.val (((UInt8.ofNat n.1).toNat : Nat) : Int) = if hv (UInt8.ofNat n.1) < 16 then (hv (UInt8.ofNat n.1) : Int) else -1 := by decide +kernel
 have := h ⟨c.toNat, c.toNat_lt⟩
 simpa using this
theorem ref_value (c : UInt8) : Ev (fun k => r2_value.f k (c.toNat : Int)) (hv c : Int) := by
 have hc := c.toNat_lt
 have j0 : ∀ (odd : Bool), Ev (fun k => r2_value.j0 k (c.toNat : Int) odd) (if odd = true then (c.toNat : Int) - 48 else if (c.toNat : Int) ≥ 97 then (if (c.toNat : Int) ≤ 102 then (c.toNat : Int) - 87 else 16) else 16) := by
  intro odd
  refine Ev.step (f := fun _ => some (if odd = true then (c.toNat : Int) - 48 else if (c.toNat : Int) ≥ 97 then (if (c.toNat : Int) ≤ 102 then (c.toNat : Int) - 87 else 16) else 16)) (fun k => ?_) (Ev.now _)
  rw [r2_value.j0, w64 (x := (c.toNat : Int)) (by omega) (by omega), w64 (by omega) (by omega), w64 (by omega) (by omega)]
  split
  · rfl
  · split
    · split <;> rfl
    · rfl
 unfold r2_value.f
 by_cases h : (c.toNat : Int) ≥ 48
 · simp only [if_pos h]
   have := j0 (decide ((c.toNat : Int) ≤ 57))
   have e : (hv c : Int) = (if decide ((c.toNat : Int) ≤ 57) = true then (c.toNat : Int) - 48 else if (c.toNat : Int) ≥ 97 then (if (c.toNat : Int) ≤ 102 then (c.toNat : Int) - 87 else 16) else 16) := by
    unfold hv
    simp only [decide_eq_true_eq]
    repeat' split
    all_goals omega
   rw [e]
   exact this
 · simp only [if_neg h]
   have := j0 false
   have e : (hv c : Int) = (if false = true then (c.toNat : Int) - 48 else if (c.toNat : Int) ≥ 97 then (if (c.toNat : Int) ≤ 102 then (c.toNat : Int) - 87 else 16) else 16) := by
    unfold hv
    repeat' split
    all_goals (first | omega | contradiction)
   rw [e]
   exact this
theorem unhex_go : ∀ (l : List UInt8) (i : Nat) (acc : List Int), i % 2 = 0 → l.length % 2 = 0 → code_Unhex.go i (ints l) acc = (unhexL l).map fun r => acc ++ ints r
 | [], i, acc, hi, hl => by
  rw [ints, List.map_nil, code_Unhex.go, unhexL, Option.map_some, ints, List.map_nil, List.append_nil]
 | [a], i, acc, hi, hl => by simp at hl
 | a :: b :: cs, i, acc, hi, hl => by
  have ha := hv_le a
  have hb := hv_le b
  rw [ints, List.map_cons, List.map_cons, code_Unhex.go, val_hv]
  rw [unhexL]
  by_cases h1 : hv a < 16
  ·
   rw [if_pos h1, if_neg (by omega), if_pos hi, code_Unhex.go, val_hv]
   by_cases h2 : hv b < 16
   ·
    rw [if_pos h2, if_neg (by omega), if_neg (by omega), if_pos ⟨h1, h2⟩]
    have e : (acc ++ [(hv a : Int) * 16]).set ((acc ++ [(hv a : Int) * 16]).length - 1) (IntKind.u8.wrap (rd (acc ++ [(hv a : Int) * 16]) (((acc ++ [(hv a : Int) * 16]).length : Int) - 1) + IntKind.u8.wrap (hv b : Int))) = acc ++ [(((UInt8.ofNat (16 * hv a + hv b)).toNat : Nat) : Int)] := by
     have hl1 : (acc ++ [(hv a : Int) * 16]).length = acc.length + 1 := by simp
     rw [hl1]
     have hr : rd (acc ++ [(hv a : Int) * 16]) (((acc.length + 1 : Nat) : Int) - 1) = (hv a : Int) * 16 := by
      unfold rd
      rw [show ((((acc.length + 1 : Nat) : Int) - 1).toNat) = acc.length by omega]
      simp
     rw [hr, Nat.add_sub_cancel, List.set_append_right _ _ (Nat.le_refl _), Nat.sub_self, List.set_cons_zero, IntKind.wrap_u8, IntKind.wrap_u8, UInt8.toNat_ofNat']
     congr 2
     omega
    rw [e]
    have ih := unhex_go cs (i + 1 + 1) (acc ++ [(((UInt8.ofNat (16 * hv a + hv b)).toNat : Nat) : Int)]) (by omega) (by simp only [List.length_cons] at hl; omega)
    rw [ints] at ih
    rw [ih]
    cases unhexL cs with
    | none => rfl
    | some r => simp [ints]
   · rw [if_neg h2, if_pos (by omega), if_neg (fun h => h2 h.2)]
     rfl
  · rw [if_neg h1, if_pos (by omega), if_neg (fun h => h1 h.1)]
    rfl
theorem unhexL_odd : ∀ l : List UInt8, l.length % 2 = 1 → unhexL l = none
 | [], h => by simp at h
 | [_], _ => rfl
 | a :: b :: cs, h => by
  rw [unhexL, unhexL_odd cs (by simp only [List.length_cons] at h; omega)]
  split <;> rfl
theorem nums_ints (r : List UInt8) : strOfNums (ints r) = mk r := by
 unfold strOfNums ints mk
 congr 2
 rw [List.map_map]
 conv => rhs; rw [← List.map_id r]
 apply List.map_congr_left
 intro c _
 simp
def unhexV (l : List UInt8) : ByteArray × Int := match unhexL l with
 | none => (⟨#[]⟩, 6)
 | some r => (mk r, 0)
theorem unhex_prog (s : ByteArray) (hs : s.size ≤ 70368744177664) : code_Unhex.f s = some (unhexV s.toList) := by
 unfold code_Unhex.f unhexV
 rw [if_pos hs]
 by_cases h : s.size % 2 = 0
 · rw [if_pos h, bytesOf_ints, unhex_go s.toList 0 [] rfl (by rw [toList_length]; exact h)]
   cases unhexL s.toList with
   | none => rfl
   | some r =>
    simp only [Option.map_some, List.nil_append, nums_ints]
 · rw [if_neg h, unhexL_odd _ (by rw [toList_length]; omega)]
theorem bt_drop {s : ByteArray} {i : Nat} {c : UInt8} {cs : List UInt8} (h : s.toList.drop i = c :: cs) : bt s (i : Int) = (c.toNat : Int) ∧ i < s.size ∧ s.toList.drop (i + 1) = cs := by
 have hlt : i < s.toList.length := by
  rcases Nat.lt_or_ge i s.toList.length with h1 | h1
  · exact h1
  · rw [List.drop_eq_nil_of_le h1] at h
    cases h
 rw [List.drop_eq_getElem_cons hlt] at h
 injection h with h1 h2
 refine ⟨?_, by rw [← toList_length]; exact hlt, h2⟩
 rw [bt_toList s i (by rw [← toList_length]; exact hlt), h1]
theorem unhex_l0 (s : ByteArray) (hs : s.size ≤ 70368744177664) : ∀ (l : List UInt8) (i : Nat) (r : List UInt8), i % 2 = 0 → r.length ≤ i → s.toList.drop i = l →
 Ev (fun k => r2_Unhex.l0 k s (ints r) (i : Int)) (match unhexL l with | none => (⟨#[]⟩, 6) | some t => (mk (r ++ t), 0))
 | [], i, r, hi, hr, hl => by
  have hle : s.size ≤ i := by
   rw [← toList_length]
   exact List.drop_eq_nil_iff.mp hl
  refine Ev.step (f := fun _ => some (mk r, 0)) (fun k => ?_) ?_
  · rw [r2_Unhex.l0, if_neg (by omega), nums_ints]
  · simp only [unhexL, List.append_nil]
    exact Ev.now _
 | [a], i, r, hi, hr, hl => by
  obtain ⟨ha, hlt, hl2⟩ := bt_drop hl
  have hsz : i + 1 = s.size := by
   have := congrArg List.length hl
   rw [List.length_drop, toList_length] at this
   simp at this
   omega
  have hm : Int.tmod (i : Int) 2 = 0 := by
   have e : Int.tmod (i : Int) 2 = ((i % 2 : Nat) : Int) := rfl
   rw [e, hi]
   rfl
  have bad : Ev (fun k => r2_Unhex.j1 k s (ints r) (i : Int) true) ((⟨#[]⟩ : ByteArray), (6 : Int)) := by
   refine Ev.step (f := fun _ => some (⟨#[]⟩, 6)) (fun k => ?_) (Ev.now _)
   rw [r2_Unhex.j1, if_pos rfl]
  refine Ev.step (f := fun k => (r2_value.f k (a.toNat : Int)).bind fun t201 => r2_Unhex.j1 k s (ints r) (i : Int) true) (fun k => ?_) ?_
  · rw [r2_Unhex.l0, if_pos (by omega), if_pos (by omega), ha]
    congr 1
    funext t
    split
    · rfl
    · (try rw [if_pos hm]); rw [w64 (by omega) (by omega)]
      congr 1
      simp only [beq_iff_eq]
      omega
  · exact Ev.bind (ref_value a) bad
 | a :: b :: cs, i, r, hi, hr, hl => by
  obtain ⟨ha, hlt, hl2⟩ := bt_drop hl
  obtain ⟨hb, hlt2, hl3⟩ := bt_drop hl2
  have hm : Int.tmod (i : Int) 2 = 0 := by
   have e : Int.tmod (i : Int) 2 = ((i % 2 : Nat) : Int) := rfl
   rw [e, hi]
   rfl
  have hm1 : Int.tmod ((i + 1 : Nat) : Int) 2 = 1 := by
   have e : Int.tmod ((i + 1 : Nat) : Int) 2 = (((i + 1) % 2 : Nat) : Int) := rfl
   rw [e, show (i + 1) % 2 = 1 by omega]
   rfl
  have bad : ∀ j : Int, Ev (fun k => r2_Unhex.j1 k s (ints r) j true) ((⟨#[]⟩ : ByteArray), (6 : Int)) := by
   intro j
   refine Ev.step (f := fun _ => some (⟨#[]⟩, 6)) (fun k => ?_) (Ev.now _)
   rw [r2_Unhex.j1, if_pos rfl]
  rw [unhexL]
  refine Ev.step (f := fun k => (r2_value.f k (a.toNat : Int)).bind fun t201 => if t201 > 15 then r2_Unhex.j1 k s (ints r) (i : Int) true else r2_Unhex.j1 k s (ints r) (i : Int) false) (fun k => ?_) ?_
  · rw [r2_Unhex.l0, if_pos (by omega), if_pos (by omega), ha]
    congr 1
    funext t
    split
    · rfl
    · (try rw [if_pos hm]); rw [w64 (by omega) (by omega), show (((i : Int) + 1) == (s.size : Int)) = false by rw [beq_eq_false_iff_ne]; omega]
  ·
   refine Ev.bind (ref_value a) ?_
   by_cases h1 : hv a < 16
   ·
    simp only [if_neg (show ¬ ((hv a : Int) > 15) by omega)]
    refine Ev.step (f := fun k => r2_Unhex.l0 k s (ints r) ((i + 1 : Nat) : Int)) (fun k => ?_) ?_
    · rw [r2_Unhex.j1, if_neg (by simp), if_neg (by rw [hm]; omega), w64 (by omega) (by omega)]
      rfl
    ·
     refine Ev.step (f := fun k => (r2_value.f k (b.toNat : Int)).bind fun t201 => if t201 > 15 then r2_Unhex.j1 k s (ints r) ((i + 1 : Nat) : Int) true else r2_Unhex.j1 k s (ints r) ((i + 1 : Nat) : Int) false) (fun k => ?_) ?_
     · rw [r2_Unhex.l0, if_pos (by omega), if_pos (by omega), hb]
       congr 1
       funext t
       split
       · rfl
       · rw [if_neg (by rw [hm1]; omega)]
     ·
      refine Ev.bind (ref_value b) ?_
      by_cases h2 : hv b < 16
      ·
       simp only [if_neg (show ¬ ((hv b : Int) > 15) by omega), if_pos (show hv a < 16 ∧ hv b < 16 from ⟨h1, h2⟩)]
       refine Ev.step (f := fun k => (r2_value.f k (a.toNat : Int)).bind fun t202 => (r2_value.f k (b.toNat : Int)).bind fun t203 => r2_Unhex.l0 k s (ints r ++ [(wrap64 ((wrap64 (16 * t202)) + t203)) % 256]) ((i + 1 + 1 : Nat) : Int)) (fun k => ?_) ?_
       · have hl : (ints r).length < 140737488355328 := by rw [ints, List.length_map]; omega
         rw [r2_Unhex.j1, if_neg (by simp), if_pos hm1, w64 (x := ((i + 1 : Nat) : Int) - 1) (by omega) (by omega), show (((i + 1 : Nat) : Int) - 1) = (i : Int) by omega, if_pos (by omega), if_pos (by omega), ha, hb, w64 (x := ((i + 1 : Nat) : Int) + 1) (by omega) (by omega)]
         congr 1
         funext t
         rw [if_pos (by omega), if_pos (by omega)]
         congr 1
         funext t2
         rw [if_pos hl]
         rfl
       ·
        refine Ev.bind (ref_value a) (Ev.bind (ref_value b) ?_)
        have e : ints r ++ [(wrap64 ((wrap64 (16 * (hv a : Int))) + (hv b : Int))) % 256] = ints (r ++ [UInt8.ofNat (16 * hv a + hv b)]) := by
         have ha := hv_le a
         have hb := hv_le b
         rw [w64 (x := 16 * (hv a : Int)) (by omega) (by omega), w64 (by omega) (by omega)]
         simp only [ints, List.map_append, List.map_cons, List.map_nil, UInt8.toNat_ofNat']
         congr 2
        rw [e]
        have ih := unhex_l0 s hs cs (i + 1 + 1) (r ++ [UInt8.ofNat (16 * hv a + hv b)]) (by omega) (by rw [List.length_append, List.length_singleton]; omega) hl3
        cases hu : unhexL cs with
        | none =>
         rw [hu] at ih
         exact ih
        | some t =>
         rw [hu] at ih
         simp only [Option.map_some]
         simpa using ih
      · simp only [if_pos (show ((hv b : Int) > 15) by have := hv_le b; omega), if_neg (show ¬ (hv a < 16 ∧ hv b < 16) from fun h => h2 h.2)]
        exact bad _
   · simp only [if_pos (show ((hv a : Int) > 15) by have := hv_le a; omega), if_neg (show ¬ (hv a < 16 ∧ hv b < 16) from fun h => h1 h.1)]
     exact bad _
theorem unhex_ref (s : ByteArray) (hs : s.size ≤ 70368744177664) : Ev (fun k => r2_Unhex.f k s) (unhexV s.toList) := by
 have := unhex_l0 s hs s.toList 0 [] rfl (Nat.le_refl _) rfl
 unfold r2_Unhex.f unhexV
 cases hu : unhexL s.toList with
 | none =>
  rw [hu] at this
  exact this
 | some t =>
  rw [hu] at this
  exact this

theorem hv_hd : ∀ n : Nat, n < 16 → hv (hd n) = n := by
 have h : ∀ n : Fin 16, hv (hd n.1) = n.1 := by decide
 exact fun n hn => h ⟨n, hn⟩
theorem hd_hv (c : UInt8) (h : hv c < 16) : hd (hv c) = c := by
 have h0 : ∀ n : Fin 256, hv (UInt8.ofNat n.1) < 16 → hd (hv (UInt8.ofNat n.1)) = UInt8.ofNat n.1 := by decide +kernel
 have := h0 ⟨c.toNat, c.toNat_lt⟩
 simp only [UInt8.ofNat_toNat] at this
 exact this h
theorem unhex_hex : ∀ l : List UInt8, unhexL (hexL l) = some l
 | [] => rfl
 | c :: cs => by
  have hc := c.toNat_lt
  rw [hexL, unhexL, hv_hd _ (by omega), hv_hd _ (by omega), if_pos (by omega), unhex_hex cs, Option.map_some]
  congr 2
  rw [show 16 * (c.toNat / 16) + c.toNat % 16 = c.toNat by omega]
  simp
theorem hex_unhex : ∀ (l r : List UInt8), unhexL l = some r → hexL r = l
 | [], r, h => by
  cases Option.some.inj h
  rfl
 | [_], r, h => by cases h
 | a :: b :: cs, r, h => by
  rw [unhexL] at h
  split at h
  · rename_i hab
    obtain ⟨t, ht, rfl⟩ := Option.map_eq_some_iff.mp h
    have e : (UInt8.ofNat (16 * hv a + hv b)).toNat = 16 * hv a + hv b := by
     rw [UInt8.toNat_ofNat']
     omega
    rw [hexL, e, show (16 * hv a + hv b) / 16 = hv a by omega, show (16 * hv a + hv b) % 16 = hv b by omega, hd_hv a hab.1, hd_hv b hab.2, hex_unhex cs t ht]
  · cases h
theorem hexL_length : ∀ l : List UInt8, (hexL l).length = 2 * l.length
 | [] => rfl
 | c :: cs => by rw [hexL, List.length_cons, List.length_cons, hexL_length cs, List.length_cons]; omega
end Go.Proofs.YtnapcfpecpgdbaaDoor.Pl
