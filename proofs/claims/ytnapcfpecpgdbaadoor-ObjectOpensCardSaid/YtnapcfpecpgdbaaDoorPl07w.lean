/- Decimal numbers read by the reference. -/
import Derived.Test.YtnapcfpecpgdbaaDoorPl07h
import Derived.Test.YtnapcfpecpgdbaaDoorMx5
namespace Go.Proofs.YtnapcfpecpgdbaaDoor.Pl
set_option linter.unusedVariables false
set_option linter.unusedSimpArgs false
open Go.RowKit Go.Proofs.YtnapcfpecpgdbaaDoor.M Go.Proofs.YtnapcfpecpgdbaaDoorW.PrintWords Go.Proofs.YtnapcfpecpgdbaaDoorW.PrintLast

theorem undec_l0 (s : ByteArray) (hs : s.size ≤ 1000) : ∀ (l : List UInt8) (i : Nat) (n : Int), 0 ≤ n → n < 18446744073709551616 → s.toList.drop i = l →
 Ev (fun k => r2_Undec.l0 k s n (i : Int)) (match code_Undec.go (ints l) n with | none => (0, 6) | some m => (m, 0))
 | [], i, n, h0, h1, hl => by
  have hle : s.size ≤ i := by
   rw [← toList_length]
   exact List.drop_eq_nil_iff.mp hl
  refine Ev.step (f := fun _ => some (n, 0)) (fun k => ?_) ?_
  · rw [r2_Undec.l0, if_neg (by omega)]
  · simp only [ints, List.map_nil, code_Undec.go]
    exact Ev.now _
 | c :: cs, i, n, h0, h1, hl => by
  obtain ⟨hc, hlt, hl2⟩ := bt_drop hl
  have bad : Ev (fun k => r2_Undec.j2 k s n (i : Int) true) ((0 : Int), (6 : Int)) := by
   refine Ev.step (f := fun _ => some (0, 6)) (fun k => ?_) (Ev.now _)
   rw [r2_Undec.j2, if_pos rfl]
  have hcl := c.toNat_lt
  simp only [ints, List.map_cons, code_Undec.go]
  by_cases h48 : (c.toNat : Int) < 48
  · simp only [if_pos h48]
    refine Ev.step (f := fun k => r2_Undec.j2 k s n (i : Int) true) (fun k => ?_) bad
    rw [r2_Undec.l0, if_pos (by omega), if_pos (by omega), hc, if_pos h48]
  ·
   simp only [if_neg h48]
   by_cases h57 : 57 < (c.toNat : Int)
   · simp only [if_pos h57]
     refine Ev.step (f := fun k => r2_Undec.j2 k s n (i : Int) true) (fun k => ?_) bad
     rw [r2_Undec.l0, if_pos (by omega), if_pos (by omega), hc, if_neg h48, decide_eq_true h57]
   ·
    simp only [if_neg h57]
    refine Ev.step (f := fun k => r2_Undec.j2 k s n (i : Int) false) (fun k => ?_) ?_
    · rw [r2_Undec.l0, if_pos (by omega), if_pos (by omega), hc, if_neg h48, decide_eq_false h57]
    ·
     have e1 : IntKind.u64.wrap (c.toNat : Int) = (c.toNat : Int) := u64w (by omega) (by omega)
     have e2 : IntKind.u64.wrap ((c.toNat : Int) - 48) = (c.toNat : Int) - 48 := u64w (by omega) (by omega)
     by_cases hov : (18446744073709551615 - ((c.toNat : Int) - 48)) / 10 < n
     · simp only [if_pos hov]
       refine Ev.step (f := fun _ => some (0, 6)) (fun k => ?_) (Ev.now _)
       rw [r2_Undec.j2, if_neg (by decide), if_pos (by omega), if_pos (by omega), hc, e1, e2]
       by_cases hb : n > 1844674407370955161
       · rw [if_pos hb]
       · rw [if_neg hb, if_pos (by omega), if_pos (by omega)]
     ·
      simp only [if_neg hov]
      have e3 : IntKind.u64.wrap (n * 10) = n * 10 := u64w (by omega) (by omega)
      have e4 : IntKind.u64.wrap (n * 10 + ((c.toNat : Int) - 48)) = n * 10 + ((c.toNat : Int) - 48) := u64w (by omega) (by omega)
      refine Ev.step (f := fun k => r2_Undec.l0 k s (n * 10 + ((c.toNat : Int) - 48)) ((i + 1 : Nat) : Int)) (fun k => ?_) ?_
      · rw [r2_Undec.j2, if_neg (by decide), if_pos (by omega), if_pos (by omega), hc, e1, e2, e3, e4, w64 (by omega) (by omega), if_neg (by omega)]
        by_cases hb : n = 1844674407370955161
        · rw [if_pos hb, if_neg (by omega)]
          rfl
        · rw [if_neg hb]
          rfl
      · have ih := undec_l0 s hs cs (i + 1) (n * 10 + ((c.toNat : Int) - 48)) (by omega) (by omega) hl2
        rw [ints] at ih
        exact ih

theorem go_snoc (l : List UInt8) (c : UInt8) (n : Int) (h : code_Undec.go (ints (l ++ [c])) 0 = some n) : ∃ m, code_Undec.go (ints l) 0 = some m ∧ 48 ≤ c.toNat ∧ c.toNat ≤ 57 ∧ n = m * 10 + ((c.toNat : Int) - 48) := by
 rw [ints, List.map_append, go_append] at h
 obtain ⟨m, hm, h⟩ := Option.bind_eq_some_iff.mp h
 refine ⟨m, hm, ?_⟩
 simp only [List.map_cons, List.map_nil, code_Undec.go] at h
 split at h
 · cases h
 · split at h
   · cases h
   · split at h
     · cases h
     · have := Option.some.inj h
       omega
/-- Digits that do not begin with a zero, unless there is one alone, are the number's own. -/
theorem form : ∀ (k : Nat) (l : List UInt8) (n : Int), l.length = k → l ≠ [] → (1 < l.length → l.head? ≠ some 48) → code_Undec.go (ints l) 0 = some n → l = decL n.toNat ∧ (l.head? ≠ some 48 → 1 ≤ n) := by
 intro k
 induction k with
 | zero => intro l n hk hne; exact absurd (List.eq_nil_of_length_eq_zero hk) hne
 | succ k ih =>
  intro l n hk hne hz h
  obtain ⟨l', c, rfl⟩ : ∃ l' c, l = l' ++ [c] := ⟨l.dropLast, l.getLast hne, (List.dropLast_concat_getLast hne).symm⟩
  obtain ⟨m, hm, c1, c2, hn⟩ := go_snoc l' c n h
  by_cases hl' : l' = []
  · subst hl'
    rw [ints, List.map_nil, code_Undec.go] at hm
    obtain rfl := Option.some.inj hm
    have hnn : n.toNat = c.toNat - 48 := by omega
    refine ⟨?_, fun hh => ?_⟩
    · rw [hnn, decL, if_pos (by omega), show 48 + (c.toNat - 48) = c.toNat by omega]
      simp
    · have : c.toNat ≠ 48 := fun he => hh (by
       have : c = 48 := UInt8.toNat_inj.mp he
       rw [this]
       rfl)
      omega
  ·
   have hlen : l'.length = k := by simpa using hk
   have hh : (l' ++ [c]).head? = l'.head? := by
    cases l' with
    | nil => exact absurd rfl hl'
    | cons x xs => rfl
   have hpos : 0 < l'.length := List.length_pos_iff.mpr hl'
   have hz2 : l'.head? ≠ some 48 := by
    rw [← hh]
    exact hz (by rw [List.length_append, List.length_singleton]; omega)
   obtain ⟨h1, h2⟩ := ih l' m hlen hl' (fun _ => hz2) hm
   have hm1 := h2 hz2
   refine ⟨?_, fun _ => by omega⟩
   rw [decL, if_neg (by omega), show n.toNat / 10 = m.toNat by omega, ← h1, show 48 + n.toNat % 10 = c.toNat by omega]
   simp
theorem decL_head : ∀ n : Nat, 10 ≤ n → (decL n).head? ≠ some 48 := by
 intro n
 induction n using Nat.strongRecOn with
 | _ n ih =>
  intro h10
  rw [decL, if_neg (by omega)]
  have hh : ∀ x, (decL (n / 10) ++ [x]).head? = (decL (n / 10)).head? := by
   intro x
   cases hd : decL (n / 10) with
   | nil => exact absurd hd (decL_ne _)
   | cons y ys => rfl
  rw [hh]
  by_cases hb : 10 ≤ n / 10
  · exact ih (n / 10) (by omega) hb
  · rw [decL, if_pos (by omega)]
    intro he
    have h2 : UInt8.ofNat (48 + n / 10) = 48 := Option.some.inj he
    have h3 := congrArg UInt8.toNat h2
    rw [UInt8.toNat_ofNat'] at h3
    have h4 : (48 : UInt8).toNat = 48 := rfl
    omega
theorem undec_ref (s : ByteArray) (hs : s.size ≤ 1000000) : Ev (fun k => r2_Undec.f k s) (undecV s.toList) := by
 have bad : Ev (fun k => r2_Undec.j0 k s true) ((0 : Int), (6 : Int)) := by
  refine Ev.step (f := fun _ => some (0, 6)) (fun k => ?_) (Ev.now _)
  rw [r2_Undec.j0, if_pos rfl]
 have hlen := toList_length s
 unfold r2_Undec.f
 by_cases h0 : s.toList = []
 · simp only [if_pos h0]
   have : undecV s.toList = (0, 6) := by
    unfold undecV
    split
    · rfl
    · rw [if_pos h0]
   rw [this]
   exact bad
 ·
  simp only [if_neg h0]
  have hs0 : 0 < s.size := by
   rw [← hlen]
   exact List.length_pos_iff.mpr h0
  by_cases h20 : (s.size : Int) > 20
  ·
   simp only [if_pos h20]
   have : undecV s.toList = (0, 6) := by
    unfold undecV
    split
    · rfl
    · rename_i n hg
      have hr := go_range _ _ _ (by omega) (by omega) hg
      rw [if_neg h0, if_neg]
      intro he
      have := decL_short n.toNat (by omega)
      rw [← he, hlen] at this
      omega
   rw [this]
   exact bad
  ·
   simp only [if_neg h20]
   have good : (1 < s.toList.length → s.toList.head? ≠ some 48) → Ev (fun k => r2_Undec.j0 k s false) (undecV s.toList) := by
    intro hz
    unfold undecV
    refine Ev.step (f := fun k => r2_Undec.l0 k s 0 ((0 : Nat) : Int)) (fun k => ?_) ?_
    · rw [r2_Undec.j0, if_neg (by decide)]
      rfl
    · have := undec_l0 s (by omega) s.toList 0 0 (by omega) (by omega) rfl
      cases hg : code_Undec.go (ints s.toList) 0 with
      | none =>
       rw [hg] at this
       exact this
      | some n =>
       rw [hg] at this
       have hf := (form _ s.toList n rfl h0 hz hg).1
       simp only
       rw [if_neg h0, if_pos hf]
       exact this
   by_cases h1 : (s.size : Int) > 1
   ·
    simp only [if_pos h1, if_pos (show (0 : Int) < (s.size : Int) by omega)]
    cases hl : s.toList with
    | nil => exact absurd hl h0
    | cons c cs =>
     have hb := (bt_drop (s := s) (i := 0) (by rw [List.drop_zero]; exact hl)).1
     have hb0 : bt s 0 = (c.toNat : Int) := hb
     rw [hl] at good
     by_cases h48 : c = 48
     ·
      have e : (bt s 0 == 48) = true := by rw [hb0, h48]; rfl
      simp only [e]
      have : undecV (c :: cs) = (0, 6) := by
       unfold undecV
       split
       · rfl
       ·
        rename_i n hg
        rw [if_neg (by simp), if_neg]
        intro he
        by_cases h10 : 10 ≤ n.toNat
        · have := decL_head n.toNat h10
          rw [← he, h48] at this
          exact this rfl
        · rw [decL, if_pos (by omega)] at he
          have := congrArg List.length he
          rw [hl] at hlen
          simp at this hlen
          rw [this] at hlen
          simp at hlen
          omega
      rw [this]
      exact bad
     · have e : (bt s 0 == 48) = false := by
        rw [hb0, beq_eq_false_iff_ne]
        intro he
        exact h48 (UInt8.toNat_inj.mp (by show c.toNat = 48; omega))
       simp only [e]
       exact good (fun _ => by simpa using h48)
   · simp only [if_neg h1]
     exact good (fun h => by omega)
end Go.Proofs.YtnapcfpecpgdbaaDoor.Pl
