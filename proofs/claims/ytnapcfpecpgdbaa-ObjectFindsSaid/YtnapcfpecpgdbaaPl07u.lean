/- Tags read by the reference, tags put together, and both ways: what the program and the reference come to. -/
import Derived.Test.YtnapcfpecpgdbaaPl07t
namespace Go.Proofs.Ytnapcfpecpgdbaa.Pl
set_option linter.unusedVariables false
set_option linter.unusedSimpArgs false
open Go.RowKit Go.Proofs.Ytnapcfpecpgdbaa.M Go.Proofs.YtnapcfpecpgdbaaW.PrintWords Go.Proofs.YtnapcfpecpgdbaaW.PrintLast

def kfin (w : List UInt8) : Int := if w = kword 4 then 4 else if w = kword 3 then 3 else if w = kword 2 then 2 else if w = kword 1 then 1 else 0
theorem kfin_kidx (w : List UInt8) : kfin w = if 1 ≤ kidx w then kidx w else 0 := by
  have d : ∀ i j : Fin 5, kword (i.1 : Int) = kword (j.1 : Int) → i = j := by decide
  have w0 : kword 0 = [] := by decide
  unfold kfin kidx
  have n1 : kword 1 ≠ [] := by decide
  have n2 : kword 2 ≠ [] := by decide
  have n3 : kword 3 ≠ [] := by decide
  have n4 : kword 4 ≠ [] := by decide
  have n12 : kword 1 ≠ kword 2 := by decide
  have n13 : kword 1 ≠ kword 3 := by decide
  have n14 : kword 1 ≠ kword 4 := by decide
  have n23 : kword 2 ≠ kword 3 := by decide
  have n24 : kword 2 ≠ kword 4 := by decide
  have n34 : kword 3 ≠ kword 4 := by decide
  by_cases h4 : w = kword 4
  · subst h4
    simp [n4, n14.symm, n24.symm, n34.symm]
  · by_cases h3 : w = kword 3
    · subst h3
      simp [n3, n13.symm, n23.symm, n34]
    · by_cases h2 : w = kword 2
      · subst h2
        simp [n2, n12.symm, n24, n23]
      · by_cases h1 : w = kword 1
        · subst h1
          simp [n1, n12, n13, n14]
        · by_cases h0 : w = []
          · subst h0
            simp [n1.symm, n2.symm, n3.symm, n4.symm]
          · simp [h0, h1, h2, h3, h4]
theorem bt_head (s : ByteArray) (c : UInt8) (t : List UInt8) (h : s.toList = c :: t) : bt s 0 = (c.toNat : Int) := by
  have := bt_drop (s := s) (i := 0) (by rw [List.drop_zero]; exact h)
  exact this.1
theorem get_ref (s : ByteArray) (hs : s.size ≤ 70368744177664) : Ev (fun k => pollardref07_GetTag.f k s) (tagV s) := by
  have l1 : (⟨#[111, 98, 106, 101, 99, 116]⟩ : ByteArray).toList = wObj := toList_lit _
  have l2 : (⟨#[107, 105, 110, 100]⟩ : ByteArray).toList = wKind := toList_lit _
  have l3 : (⟨#[110, 97, 109, 101]⟩ : ByteArray).toList = wName := toList_lit _
  obtain ⟨p1, r1, h1, a1, b1, c1⟩ := ref_line s ⟨#[111, 98, 106, 101, 99, 116]⟩ hs (by decide)
  obtain ⟨p2, r2, h2, a2, b2, c2⟩ := ref_line r1 ⟨#[107, 105, 110, 100]⟩ (by omega) (by decide)
  obtain ⟨p3, r3, h3, a3, b3, c3⟩ := ref_line r2 ⟨#[110, 97, 109, 101]⟩ (by omega) (by decide)
  rw [l1] at h1 c1
  rw [l2] at h2 c2
  rw [l3] at h3 c3
  have bad : ∀ a b c d e, Ev (fun k => pollardref07_GetTag.j1 k a true b c d e) ((⟨#[]⟩ : ByteArray), (0 : Int), (⟨#[]⟩ : ByteArray), (⟨#[]⟩ : ByteArray), (6 : Int)) := fun a b c d e =>
    Ev.step (f := fun _ => some (⟨#[]⟩, 0, ⟨#[]⟩, ⟨#[]⟩, 6)) (fun k => by rw [pollardref07_GetTag.j1, if_pos rfl]) (Ev.now _)
  unfold pollardref07_GetTag.f
  refine Ev.bind h1 (Ev.bind h2 (Ev.bind h3 ?_))
  simp only
  have step : ∀ (i : Int) (kd : Int), 1 ≤ i → i ≤ 4 → ∀ k, pollardref07_GetTag.l0 (k + 1) p1 r3 (lineL s.toList wObj).isSome p2 (lineL r1.toList wKind).isSome (lineL r2.toList wName).isSome i ⟨#[]⟩ kd p3 ⟨#[]⟩ = pollardref07_GetTag.l0 k p1 r3 (lineL s.toList wObj).isSome p2 (lineL r1.toList wKind).isSome (lineL r2.toList wName).isSome (i + 1) ⟨#[]⟩ (if p2.toList = kword i then i else kd) p3 ⟨#[]⟩ := by
    intro i kd hi1 hi2 k
    rw [pollardref07_GetTag.l0, if_pos (by omega), kind_ref i ⟨hi1, hi2⟩, Option.bind_some, toList_mk, w64 (by omega) (by omega)]
    by_cases h : p2.toList = kword i
    · rw [if_pos h.symm, if_pos h]
    · rw [if_neg (fun hh => h hh.symm), if_neg h]
  refine Ev.step (step 1 0 (by omega) (by omega)) (Ev.step (step (1 + 1) _ (by omega) (by omega)) (Ev.step (step (1 + 1 + 1) _ (by omega) (by omega)) (Ev.step (step (1 + 1 + 1 + 1) _ (by omega) (by omega)) ?_)))
  have hk : (if p2.toList = kword (1 + 1 + 1 + 1) then (1 + 1 + 1 + 1 : Int) else if p2.toList = kword (1 + 1 + 1) then (1 + 1 + 1) else if p2.toList = kword (1 + 1) then (1 + 1) else if p2.toList = kword 1 then 1 else 0) = kfin p2.toList := rfl
  rw [hk, kfin_kidx]
  generalize hK : (if 1 ≤ kidx p2.toList then kidx p2.toList else 0) = K
  have hK0 : K = 0 ↔ ¬ 1 ≤ kidx p2.toList := by
    rw [← hK]
    split
    · omega
    · simp; omega
  refine Ev.step (f := fun k => ((pollardref07_id.f k p1).bind fun bt221 => (if (lineL s.toList wObj).isSome = true then (if (lineL r1.toList wKind).isSome = true then (if (lineL r2.toList wName).isSome = true then (if (r3.size : Int) = 0 then (pollardref07_GetTag.j1 k r3 true bt221.1 K p3 ⟨#[]⟩) else (if 0 < (r3.size : Int) then (if (bt r3 0) = 10 then (if K = 0 then (pollardref07_GetTag.j1 k r3 true bt221.1 K p3 ⟨#[]⟩) else (pollardref07_GetTag.j1 k r3 ((bt221.1.size : Int) != 32) bt221.1 K p3 ⟨#[]⟩)) else (pollardref07_GetTag.j1 k r3 true bt221.1 K p3 ⟨#[]⟩)) else (none))) else (pollardref07_GetTag.j1 k r3 true bt221.1 K p3 ⟨#[]⟩)) else (pollardref07_GetTag.j1 k r3 true bt221.1 K p3 ⟨#[]⟩)) else (pollardref07_GetTag.j1 k r3 true bt221.1 K p3 ⟨#[]⟩)))) (fun k => ?_) ?_
  · rw [pollardref07_GetTag.l0, if_neg (by omega)]
  refine Ev.bind (id_ref p1 (by omega)) ?_
  unfold tagV tagL
  cases e1 : lineL s.toList wObj with
  | none => exact bad _ _ _ _ _
  | some x =>
    obtain ⟨rfl, rfl⟩ := c1 x.1 x.2 (by rw [e1])
    simp only [Option.isSome_some, if_true, Option.bind_some, toList_mk] at *
    cases e2 : lineL x.2 wKind with
    | none => exact bad _ _ _ _ _
    | some y =>
      obtain ⟨rfl, rfl⟩ := c2 y.1 y.2 (by rw [e2])
      simp only [Option.isSome_some, if_true, Option.bind_some, toList_mk] at *
      cases e3 : lineL y.2 wName with
      | none => exact bad _ _ _ _ _
      | some z =>
        obtain ⟨rfl, rfl⟩ := c3 z.1 z.2 (by rw [e3])
        simp only [Option.isSome_some, if_true, Option.bind_some, toList_mk] at *
        cases e4 : z.2 with
        | nil =>
          simp only [mk_size, List.length_nil]
          exact bad _ _ _ _ _
        | cons c t =>
          have hh := bt_head (mk (c :: t)) c t (toList_mk _)
          have hz : (mk (c :: t)).size = t.length + 1 := by rw [mk_size]; rfl
          simp only [hz, if_neg (show ¬ (((t.length + 1 : Nat) : Int) = 0) by omega), if_pos (show (0 : Int) < ((t.length + 1 : Nat) : Int) by omega), hh, blankL]
          by_cases h10 : c = 10
          · subst h10
            simp only [if_pos (show (((10 : UInt8).toNat : Nat) : Int) = 10 from rfl), if_true, Option.bind_some]
            by_cases h6 : 1 ≤ kidx y.1
            · have hKn : ¬ K = 0 := fun h => (hK0.mp h) h6
              simp only [if_neg hKn]
              rw [if_pos h6] at hK
              subst hK
              by_cases h5 : (idV x.1).2 = true
              · have hsz : (idV x.1).1.size = 32 := by
                  unfold idV at h5 ⊢
                  cases hu : unhexL x.1 with
                  | none =>
                    rw [hu] at h5
                    cases h5
                  | some r =>
                    rw [hu] at h5
                    simp only [decide_eq_true_eq] at h5
                    show (mk r).size = 32
                    rw [mk_size, h5]
                have hne : (((idV x.1).1.size : Int) != 32) = false := by rw [hsz]; rfl
                simp only [hne, if_pos (show (idV x.1).2 = true ∧ 1 ≤ kidx y.1 from ⟨h5, h6⟩), mk_toList]
                have hex : (mk (10 :: t)).extract 1 (t.length + 1) = mk t := by
                  apply ba_ext
                  rw [toList_extract, toList_mk, toList_mk]
                  simp
                refine Ev.step (f := fun k => (pollardref07_CheckTag.f k (idV x.1).1 (kidx y.1) (mk z.1) (mk t)).bind fun t223 => (if t223 = 0 then (some ((idV x.1).1, kidx y.1, mk z.1, mk t, 0)) else (some ((⟨#[]⟩ : ByteArray), 0, (⟨#[]⟩ : ByteArray), (⟨#[]⟩ : ByteArray), t223)))) (fun k => by rw [pollardref07_GetTag.j1, if_neg (by decide), hz, if_pos (by omega), hex]) ?_
                have hsz4 : (mk z.1).size ≤ s.size ∧ (mk t).size ≤ s.size := by
                  have q1 : z.2.length = t.length + 1 := by rw [e4]; rfl
                  simp only [mk_size] at *
                  omega
                refine Ev.bind (check_ref _ _ _ _ (by omega) (by omega)) ?_
                by_cases h7 : chkV (idV x.1).1 (kidx y.1) (mk z.1) (mk t) = 0
                · simp only [if_pos h7]
                  exact Ev.now _
                · simp only [if_neg h7]
                  exact Ev.now _
              · have hne : (((idV x.1).1.size : Int) != 32) = true := by
                  unfold idV at h5 ⊢
                  cases hu : unhexL x.1 with
                  | none => rfl
                  | some r =>
                    rw [hu] at h5
                    simp only [decide_eq_true_eq] at h5
                    show (((mk r).size : Int) != 32) = true
                    rw [mk_size, bne_iff_ne]
                    omega
                simp only [hne, if_neg (show ¬ ((idV x.1).2 = true ∧ 1 ≤ kidx y.1) from fun h => h5 h.1)]
                exact bad _ _ _ _ _
            · simp only [if_pos (hK0.mpr h6), if_neg (show ¬ ((idV x.1).2 = true ∧ 1 ≤ kidx y.1) from fun h => h6 h.2)]
              exact bad _ _ _ _ _
          · have hne : ¬ ((c.toNat : Int) = 10) := fun h => h10 (UInt8.toNat_inj.mp (by show c.toNat = 10; omega))
            simp only [if_neg hne, if_neg h10, Option.bind_none]
            exact bad _ _ _ _ _

/-- A tag's body. -/
def putL (i : List UInt8) (m : Int) (c t : List UInt8) : List UInt8 := wObj ++ 32 :: (hexL i ++ 10 :: (wKind ++ 32 :: (kword m ++ 10 :: (wName ++ 32 :: (c ++ 10 :: (10 :: t))))))
theorem kidx_back (w : List UInt8) (h : 1 ≤ kidx w) : w = kword (kidx w) ∧ kidx w ≤ 4 := by
  unfold kidx at h ⊢
  split at h
  · omega
  · split at h
    · rename_i h0 h1
      simp only [if_neg h0, if_pos h1]
      exact ⟨h1, by omega⟩
    · split at h
      · rename_i h0 h1 h2
        simp only [if_neg h0, if_neg h1, if_pos h2]
        exact ⟨h2, by omega⟩
      · split at h
        · rename_i h0 h1 h2 h3
          simp only [if_neg h0, if_neg h1, if_neg h2, if_pos h3]
          exact ⟨h3, by omega⟩
        · split at h
          · rename_i h0 h1 h2 h3 h4
            simp only [if_neg h0, if_neg h1, if_neg h2, if_neg h3, if_pos h4]
            exact ⟨h4, by omega⟩
          · omega
theorem blankL_some {l t : List UInt8} (h : blankL l = some t) : l = 10 :: t := by
  cases l with
  | nil => cases h
  | cons c l =>
    rw [blankL] at h
    split at h
    · rename_i hc
      rw [hc, Option.some.inj h]
    · cases h
theorem idV_true {l : List UInt8} (h : (idV l).2 = true) : ∃ r, unhexL l = some r ∧ r.length = 32 ∧ (idV l).1 = mk r := by
  unfold idV at h ⊢
  cases hu : unhexL l with
  | none =>
    rw [hu] at h
    cases h
  | some r =>
    rw [hu] at h
    exact ⟨r, rfl, by simpa using h, rfl⟩
theorem tagL_put {l i c t : List UInt8} {m : Int} (h : tagL l = some (i, m, c, t)) : putL i m c t = l ∧ 1 ≤ m ∧ m ≤ 4 ∧ i.length = 32 := by
  unfold tagL at h
  obtain ⟨x, h1, h⟩ := Option.bind_eq_some_iff.mp h
  obtain ⟨y, h2, h⟩ := Option.bind_eq_some_iff.mp h
  obtain ⟨z, h3, h⟩ := Option.bind_eq_some_iff.mp h
  obtain ⟨t', h4, h⟩ := Option.bind_eq_some_iff.mp h
  split at h
  · rename_i hc
    have h' := Option.some.inj h
    simp only [Prod.mk.injEq] at h'
    obtain ⟨hi, rfl, rfl, rfl⟩ := h'
    obtain ⟨r, hr, hr2, hr3⟩ := idV_true hc.1
    rw [hr3, toList_mk] at hi
    subst hi
    have b1 := (lineL_back (t := x.1) (r := x.2) h1).1
    have b2 := (lineL_back (t := y.1) (r := y.2) h2).1
    have b3 := (lineL_back (t := z.1) (r := z.2) h3).1
    have b4 := blankL_some h4
    have hk := kidx_back y.1 hc.2
    refine ⟨?_, hc.2, hk.2, hr2⟩
    unfold putL
    rw [hex_unhex x.1 r hr, ← hk.1, ← b4, ← b3, ← b2, ← b1]
  · cases h
theorem hexL_no10 : ∀ l : List UInt8, (10 : UInt8) ∉ hexL l
  | [] => by simp [hexL]
  | c :: cs => by
    have h : ∀ n : Fin 16, hd n.1 ≠ 10 := by decide
    have hc := c.toNat_lt
    intro hm
    rw [hexL] at hm
    rcases List.mem_cons.mp hm with hm | hm
    · exact h ⟨c.toNat / 16, by omega⟩ hm.symm
    · rcases List.mem_cons.mp hm with hm | hm
      · exact h ⟨c.toNat % 16, by omega⟩ hm.symm
      · exact hexL_no10 cs hm
theorem tagL_of_put (i : List UInt8) (m : Int) (c t : List UInt8) (hi : i.length = 32) (hm : 1 ≤ m ∧ m ≤ 4) (hc : (10 : UInt8) ∉ c) : tagL (putL i m c t) = some (i, m, c, t) := by
  have hk : (10 : UInt8) ∉ kword m := by
    have : m = 1 ∨ m = 2 ∨ m = 3 ∨ m = 4 := by omega
    rcases this with rfl | rfl | rfl | rfl <;> decide
  have hid : idV (hexL i) = (mk i, true) := by
    unfold idV
    rw [unhex_hex]
    simp [hi]
  unfold tagL putL
  rw [lineL_front wObj _ _ (by decide) (hexL_no10 i), Option.bind_some]
  simp only
  rw [lineL_front wKind _ _ (by decide) hk, Option.bind_some]
  simp only
  rw [lineL_front wName _ _ (by decide) hc, Option.bind_some]
  simp only [blankL, if_true, Option.bind_some, hid, kidx_word m hm, toList_mk]
  rw [if_pos ⟨trivial, hm.1⟩]
theorem put_ref (i : ByteArray) (m : Int) (c t : ByteArray) (hm : 1 ≤ m ∧ m ≤ 4) (hi : i.size ≤ 100000000) (hc : c.size ≤ 100000000) (ht : t.size ≤ 100000000) : Ev (fun k => pollardref07_PutTag.f k i m c t) (mk (putL i.toList m c.toList t.toList)) := by
  have hx := hexL_length i.toList
  rw [toList_length] at hx
  have hk := (kword_mem m hm).2.2
  unfold pollardref07_PutTag.f
  refine Ev.bind (hex_ref i (by omega)) ?_
  rw [kind_ref m hm]
  simp only [Option.bind_some, mk_size]
  rw [if_pos (by omega), if_pos (by omega), if_pos (by omega), if_pos (by omega), if_pos (by omega), if_pos (by omega), if_pos (by omega)]
  have e : ((((((((⟨#[111, 98, 106, 101, 99, 116, 32]⟩ : ByteArray) ++ mk (hexL i.toList)) ++ (⟨#[10, 107, 105, 110, 100, 32]⟩ : ByteArray)) ++ mk (kword m)) ++ (⟨#[10, 110, 97, 109, 101, 32]⟩ : ByteArray)) ++ c) ++ (⟨#[10, 10]⟩ : ByteArray)) ++ t) = mk (putL i.toList m c.toList t.toList) := by
    apply ba_ext
    simp only [toList_append, toList_mk]
    rw [show (⟨#[111, 98, 106, 101, 99, 116, 32]⟩ : ByteArray).toList = [111, 98, 106, 101, 99, 116, 32] from toList_lit _, show (⟨#[10, 107, 105, 110, 100, 32]⟩ : ByteArray).toList = [10, 107, 105, 110, 100, 32] from toList_lit _, show (⟨#[10, 110, 97, 109, 101, 32]⟩ : ByteArray).toList = [10, 110, 97, 109, 101, 32] from toList_lit _, show (⟨#[10, 10]⟩ : ByteArray).toList = [10, 10] from toList_lit _]
    unfold putL wObj wKind wName
    simp
  rw [e]
  exact Ev.now _
end Go.Proofs.Ytnapcfpecpgdbaa.Pl
