/- The bytes of refs: put by the program and by the reference, and read again; in plain Lean. -/
import Derived.Test.YtgepbdkbleapaaaPl13
import Derived.Test.YtgepbdkbleapaaaPl13h
import Derived.Test.YtgepbdkbleapaaaMx12
import Derived.Test.YtgepbdkbleapaaaMx14
import Derived.Test.YtgepbdkbleapaaaMx16
namespace Go.Proofs.Ytgepbdkbleapaaa.Pl
set_option linter.unusedVariables false
set_option linter.unusedSimpArgs false
open Go.RowKit Go.Proofs.Ytgepbdkbleapaaa.M Go.Proofs.YtgepbdkbleapaaaW.PrintWords Go.Proofs.YtgepbdkbleapaaaW.PrintLast

theorem hexL_no32 : ∀ l : List UInt8, (32 : UInt8) ∉ hexL l
  | [] => by simp [hexL]
  | c :: cs => by
    have h : ∀ n : Fin 16, hd n.1 ≠ 32 := by decide
    have hc := c.toNat_lt
    intro hm
    rw [hexL] at hm
    rcases List.mem_cons.mp hm with hm | hm
    · exact h ⟨c.toNat / 16, by omega⟩ hm.symm
    · rcases List.mem_cons.mp hm with hm | hm
      · exact h ⟨c.toNat % 16, by omega⟩ hm.symm
      · exact hexL_no32 cs hm
theorem allB_all (s : ByteArray) : ∀ (n i : Nat), allB s n i = true → s.size ≤ i + n → ∀ j, i ≤ j → j < s.size → okB (bt s (j : Int)) = true
  | 0, i, _, h2, j, h3, h4 => by omega
  | n + 1, i, h, h2, j, h3, h4 => by
    by_cases hlt : i < s.size
    · rw [allB_in s n i hlt, Bool.and_eq_true] at h
      by_cases e : j = i
      · rw [e]; exact h.1
      · exact allB_all s n (i + 1) h.2 (by omega) j (by omega) h4
    · omega
theorem tail_fine (s : ByteArray) (h : label_Ref.tail s = true) : s.size ≤ 64 ∧ (10 : UInt8) ∉ s.toList ∧ (32 : UInt8) ∉ s.toList := by
  unfold label_Ref.tail at h
  by_cases h0 : s.toList = ([] : List UInt8)
  · rw [if_pos h0] at h; cases h
  · rw [if_neg h0] at h
    by_cases h64 : (s.size : Int) > 64
    · rw [if_pos h64] at h; cases h
    · rw [if_neg h64, refgo_allB s s.size 0 (by omega) (by omega)] at h
      have key : ∀ c ∈ s.toList, okB (c.toNat : Int) = true := by
        intro c hc
        obtain ⟨i, hi, he⟩ := List.mem_iff_getElem.mp hc
        have hi2 : i < s.size := by rw [toList_length] at hi; exact hi
        have := allB_all s s.size 0 h (by omega) i (by omega) hi2
        rw [bt_toList s i hi2, he] at this
        exact this
      exact ⟨by omega, fun hc => absurd (key _ hc) (by decide), fun hc => absurd (key _ hc) (by decide)⟩
/-- A ref's name is short, and has no blank and no line's end. -/
theorem refK_fine (s : ByteArray) (h : 0 < refK s) : s.size ≤ 70 ∧ (10 : UInt8) ∉ s.toList ∧ (32 : UInt8) ∉ s.toList := by
  unfold refK at h
  have go : ∀ (n : Nat) (l : List UInt8), s.data.toList.take n = l → l.length = n → (10 : UInt8) ∉ l → (32 : UInt8) ∉ l → n ≤ 6 → label_Ref.tail (s.extract n s.size) = true → s.size ≤ 70 ∧ (10 : UInt8) ∉ s.toList ∧ (32 : UInt8) ∉ s.toList := by
    intro n l h1 h2 h3 h4 h5 h6
    obtain ⟨t1, t2, t3⟩ := tail_fine _ h6
    have e : s.toList = l ++ (s.extract n s.size).toList := by
      rw [toList_from, ← h1, ← toList_eq, List.take_append_drop]
    rw [extract_size] at t1
    rw [e]
    simp only [List.mem_append, not_or]
    exact ⟨by omega, ⟨h3, t2⟩, ⟨h4, t3⟩⟩
  by_cases h6 : s.data.toList.take 6 = [104, 101, 97, 100, 115, 47]
  · rw [if_pos h6] at h
    by_cases ht : label_Ref.tail (s.extract 6 s.size) = true
    · exact go 6 _ h6 rfl (by decide) (by decide) (by decide) ht
    · rw [if_neg ht] at h; exact absurd h (by decide)
  · rw [if_neg h6] at h
    by_cases h5 : s.data.toList.take 5 = [116, 97, 103, 115, 47]
    · rw [if_pos h5] at h
      by_cases ht : label_Ref.tail (s.extract 5 s.size) = true
      · exact go 5 _ h5 rfl (by decide) (by decide) (by decide) ht
      · rw [if_neg ht] at h; exact absurd h (by decide)
    · rw [if_neg h5] at h; exact absurd h (by decide)

/-- A ref's line. -/
def line (x : Rf) : List UInt8 := hexL x.f1.toList ++ 32 :: (x.f0.toList ++ [10])
def headL (h : ByteArray) : List UInt8 := [104, 101, 97, 100, 32] ++ h.toList ++ [10]
def enc (h : ByteArray) (L : List Rf) : List UInt8 := headL h ++ L.flatMap line
theorem line_len (x : Rf) (h : x.f1.size = 32) : (line x).length = 66 + x.f0.size := by
  unfold line
  simp only [List.length_append, List.length_cons, hexL_length, toList_length, List.length_nil]
  omega
theorem put_line (acc : List UInt8) (x : Rf) : mk acc ++ (((mk (hexL x.f1.toList) ++ (⟨#[32]⟩ : ByteArray)) ++ x.f0) ++ (⟨#[10]⟩ : ByteArray)) = mk (acc ++ line x) := by
  apply ba_ext
  have e1 : (⟨#[32]⟩ : ByteArray).toList = [32] := toList_lit [32]
  have e2 : (⟨#[10]⟩ : ByteArray).toList = [10] := toList_lit [10]
  simp only [toList_append, toList_mk, e1, e2, line, List.append_assoc, List.cons_append, List.nil_append]
theorem head_eq (h : ByteArray) : ((⟨#[104, 101, 97, 100, 32]⟩ : ByteArray) ++ h) ++ (⟨#[10]⟩ : ByteArray) = mk (headL h) := by
  apply ba_ext
  have e1 : (⟨#[104, 101, 97, 100, 32]⟩ : ByteArray).toList = [104, 101, 97, 100, 32] := toList_lit _
  have e2 : (⟨#[10]⟩ : ByteArray).toList = [10] := toList_lit [10]
  simp only [toList_append, toList_mk, e1, e2, headL]
theorem size10 (s : ByteArray) : (s ++ (⟨#[10]⟩ : ByteArray)).size = s.size + 1 := by rw [ByteArray.size_append]; rfl
theorem size32 (s : ByteArray) : (s ++ (⟨#[32]⟩ : ByteArray)).size = s.size + 1 := by rw [ByteArray.size_append]; rfl
theorem flat_len (L : List Rf) (hn : ∀ x ∈ L, x.f0.size ≤ 70 ∧ x.f1.size = 32) : (L.flatMap line).length ≤ 136 * L.length := by
  induction L with
  | nil => simp
  | cons x l ih =>
    have h1 := ih (fun y hy => hn y (List.mem_cons_of_mem _ hy))
    have h2 := hn x (List.mem_cons_self ..)
    rw [List.flatMap_cons, List.length_append, line_len x h2.2, List.length_cons]
    omega
theorem flat_drop (L : List Rf) (i : Nat) (h : i < L.length) : (L.take (i + 1)).flatMap line = (L.take i).flatMap line ++ line (L[i]'h) := by
  rw [List.take_add_one, List.getElem?_eq_getElem h, List.flatMap_append]
  simp
theorem take_len (L : List Rf) (i : Nat) (hL : L.length ≤ 256) (hn : ∀ x ∈ L, x.f0.size ≤ 70 ∧ x.f1.size = 32) : ((L.take i).flatMap line).length ≤ 40000 := by
  have := flat_len (L.take i) (fun x hx => hn x (List.mem_of_mem_take hx))
  rw [List.length_take] at this
  omega
theorem enc_l0 (h : ByteArray) (hh : h.size ≤ 70) (L : List Rf) (hL : L.length ≤ 256) (hn : ∀ x ∈ L, x.f0.size ≤ 70 ∧ x.f1.size = 32) : ∀ (n i : Nat), L.length - i = n → i ≤ L.length →
    Ev (fun k => refs_Encode.l0 k (mk (headL h ++ (L.take i).flatMap line)) L (L.length : Int) (i : Int)) (mk (enc h L), 0) ∧ Ev (fun k => pollardref13_Encode.l0 k (mk (headL h ++ (L.take i).flatMap line)) (i : Int) h (L.map toR)) (mk (enc h L)) := by
  intro n
  induction n with
  | zero =>
    intro i hn2 hi
    obtain rfl : i = L.length := by omega
    rw [List.take_length]
    refine ⟨Ev.step (f := fun _ => some (mk (enc h L), 0)) (fun k => ?_) (Ev.now _), Ev.step (f := fun _ => some (mk (enc h L))) (fun k => ?_) (Ev.now _)⟩
    · simp only [refs_Encode.l0]
      rw [if_neg (by omega)]
      rfl
    · simp only [pollardref13_Encode.l0, List.length_map]
      rw [if_neg (by omega)]
      rfl
  | succ n ih =>
    intro i hn2 hi
    have hlt : i < L.length := by omega
    obtain ⟨g1, g2⟩ := ih (i + 1) (by omega) (by omega)
    have z1 := take_len L i hL hn
    have z0 := hn (L[i]'hlt) (List.getElem_mem hlt)
    have e := flat_drop L i hlt
    have p := put_line (headL h ++ (L.take i).flatMap line) (L[i]'hlt)
    rw [e, ← List.append_assoc, ← p] at g1 g2
    have f0 : (toR (L[i]'hlt)).f0 = (L[i]'hlt).f0 := rfl
    have f1 : (toR (L[i]'hlt)).f1 = (L[i]'hlt).f1 := rfl
    have r0 := rd_at L i hlt
    have r1 := rd_at' L i hlt
    have hx := hex_prog (L[i]'hlt).f1 (by omega)
    have hr := hex_ref (L[i]'hlt).f1 (by omega)
    have hz : (mk (hexL (L[i]'hlt).f1.toList)).size = 64 := by rw [mk_size, hexL_length, toList_length]; omega
    have ha : (mk (headL h ++ (L.take i).flatMap line)).size ≤ 50000 := by
      rw [mk_size, List.length_append]
      unfold headL
      simp only [List.length_append, List.length_cons, List.length_nil, toList_length]
      omega
    generalize mk (headL h ++ (L.take i).flatMap line) = acc at *
    generalize mk (hexL (L[i]'hlt).f1.toList) = hex at *
    generalize L[i]'hlt = x at *
    refine ⟨Ev.step (fun k => ?_) g1, ?_⟩
    · simp only [refs_Encode.l0]
      rw [if_pos (by omega), if_pos (by omega), if_pos (by omega), r0, hx, Option.bind_some, if_pos (by omega), if_pos (by rw [size32]; omega), if_pos (by rw [ByteArray.size_append, size32]; omega), if_pos (by rw [size10, ByteArray.size_append, size32]; omega), w13 (by omega)]
    · refine Ev.step (f := fun k => (pollardref02_Hex.f k x.f1).bind fun t219 => (if t219.size + 1 ≤ 9223372036854775807 then (if (t219 ++ (⟨#[32]⟩ : ByteArray)).size + x.f0.size ≤ 9223372036854775807 then (if ((t219 ++ (⟨#[32]⟩ : ByteArray)) ++ x.f0).size + 1 ≤ 9223372036854775807 then (if acc.size + (((t219 ++ (⟨#[32]⟩ : ByteArray)) ++ x.f0) ++ (⟨#[10]⟩ : ByteArray)).size ≤ 9223372036854775807 then (pollardref13_Encode.l0 k (acc ++ (((t219 ++ (⟨#[32]⟩ : ByteArray)) ++ x.f0) ++ (⟨#[10]⟩ : ByteArray))) ((i + 1 : Nat) : Int) h (L.map toR)) else (none)) else (none)) else (none)) else (none))) (fun k => ?_) (Ev.bind hr ?_)
      · simp only [pollardref13_Encode.l0, List.length_map]
        rw [if_pos (by omega), if_pos (by omega), r1, f0, f1, w13 (by omega)]
      · refine Ev.congr (fun k => ?_) g2
        rw [if_pos (by omega), if_pos (by rw [size32]; omega), if_pos (by rw [ByteArray.size_append, size32]; omega), if_pos (by rw [size10, ByteArray.size_append, size32]; omega)]
theorem enc_prog (h : ByteArray) (hh : h.size ≤ 70) (L : List Rf) (hL : L.length ≤ 256) (hn : ∀ x ∈ L, x.f0.size ≤ 70 ∧ x.f1.size = 32) (hc : chk h L = 0) : Ev (fun k => refs_Encode.f k h L) (mk (enc h L), 0) := by
  have g := (enc_l0 h hh L hL hn L.length 0 (by omega) (by omega)).1
  rw [List.take_zero, List.flatMap_nil, List.append_nil, ← head_eq] at g
  unfold refs_Encode.f
  refine Ev.bind (chk_prog h L) ?_
  rw [hc]
  refine Ev.congr (fun k => ?_) g
  rw [if_pos rfl, if_pos (by omega), if_pos (by omega)]
  rfl
theorem enc_bad (h : ByteArray) (L : List Rf) (hc : ¬ chk h L = 0) : Ev (fun k => refs_Encode.f k h L) ((⟨#[]⟩ : ByteArray), chk h L) := by
  unfold refs_Encode.f
  refine Ev.bind (chk_prog h L) ?_
  exact Ev.congr (fun k => if_neg hc) (Ev.now _)
theorem enc_ref (h : ByteArray) (hh : h.size ≤ 70) (L : List Rf) (hL : L.length ≤ 256) (hn : ∀ x ∈ L, x.f0.size ≤ 70 ∧ x.f1.size = 32) : Ev (fun k => pollardref13_Encode.f k h (L.map toR)) (mk (enc h L)) := by
  have g := (enc_l0 h hh L hL hn L.length 0 (by omega) (by omega)).2
  rw [List.take_zero, List.flatMap_nil, List.append_nil, ← head_eq] at g
  unfold pollardref13_Encode.f
  refine Ev.congr (fun k => ?_) g
  rw [if_pos (by omega), if_pos (by omega)]
  rfl
/-- Its lines are read again. -/
theorem dec_l0 (h : ByteArray) (L : List Rf) (hL : L.length ≤ 256) (hn : ∀ x ∈ L, 0 < refK x.f0 ∧ x.f1.size = 32) (hc : chk h L = 0) : ∀ (n i : Nat), L.length - i = n → i ≤ L.length →
    Ev (fun k => refs_Decode.l0 k (mk ((L.drop i).flatMap line)) h (L.take i)) (h, L, 0) := by
  intro n
  induction n with
  | zero =>
    intro i hn2 hi
    obtain rfl : i = L.length := by omega
    rw [List.take_length, List.drop_eq_nil_of_le (Nat.le_refl _), List.flatMap_nil]
    refine Ev.step (f := fun k => (refs_Check.f k h L).bind fun t197 => (if t197 = 0 then (some (h, L, 0)) else (some ((⟨#[]⟩ : ByteArray), ([] : List Rf), t197)))) (fun k => ?_) (Ev.bind (chk_prog h L) ?_)
    · simp only [refs_Decode.l0]
      rw [if_pos (toList_mk _)]
    · rw [hc]
      exact Ev.congr (fun k => if_pos rfl) (Ev.now _)
  | succ n ih =>
    intro i hn2 hi
    have hlt : i < L.length := by omega
    have g := ih (i + 1) (by omega) (by omega)
    obtain ⟨k1, k2⟩ := hn (L[i]'hlt) (List.getElem_mem hlt)
    obtain ⟨n1, n2, n3⟩ := refK_fine _ k1
    have hz := flat_len (L.drop i) (fun x hx => ⟨(refK_fine _ (hn x (List.mem_of_mem_drop hx)).1).1, (hn x (List.mem_of_mem_drop hx)).2⟩)
    rw [List.length_drop] at hz
    have et : L.take (i + 1) = L.take i ++ [L[i]'hlt] := by rw [List.take_add_one, List.getElem?_eq_getElem hlt]; rfl
    rw [et] at g
    rw [List.drop_eq_getElem_cons hlt, List.flatMap_cons] at hz ⊢
    generalize (L.drop (i + 1)).flatMap line = rest at *
    obtain ⟨x, hx⟩ : ∃ x, L[i]'hlt = x := ⟨_, rfl⟩
    rw [hx] at g k1 k2 n1 n2 n3 hz ⊢
    have e1 : line x ++ rest = (hexL x.f1.toList ++ 32 :: x.f0.toList) ++ 10 :: rest := by
      unfold line
      simp [List.append_assoc]
    have c1 := cut_eq (mk (line x ++ rest)) 10 (by rw [mk_size]; omega)
    rw [e1, cut_mk _ rest 10 (by simp only [List.mem_append, List.mem_cons, not_or]; exact ⟨hexL_no10 _, by decide, n2⟩)] at c1
    have c2 := cut_eq (mk (hexL x.f1.toList ++ 32 :: x.f0.toList)) 32 (by rw [mk_size, List.length_append, hexL_length, List.length_cons, toList_length, toList_length]; omega)
    rw [cut_mk _ x.f0.toList 32 (hexL_no32 _), mk_toList] at c2
    have c3 := unhex_prog (mk (hexL x.f1.toList)) (by rw [mk_size, hexL_length, toList_length]; omega)
    have c4 : unhexV (mk (hexL x.f1.toList)).toList = (x.f1, 0) := by
      unfold unhexV
      rw [toList_mk, unhex_hex]
      dsimp only
      rw [mk_toList]
    rw [c4] at c3
    refine Ev.step (f := fun k => refs_Decode.j2 k (mk rest) x.f0 x.f1 false h (L.take i)) (fun k => ?_) (Ev.step (fun k => ?_) g)
    · simp only [refs_Decode.l0]
      rw [if_neg (by rw [toList_mk, e1]; simp), e1, c1, Option.bind_some, c2, Option.bind_some, c3, Option.bind_some, if_pos rfl, if_pos rfl]
      rfl
    · simp only [refs_Decode.j2]
      rw [if_neg (by simp), if_pos (by rw [List.length_take]; omega), Option.bind_some, if_neg (by rw [List.length_append, List.length_take, List.length_singleton]; omega)]
theorem dec_prog (h : ByteArray) (L : List Rf) (hL : L.length ≤ 256) (hh : 0 < refK h) (hn : ∀ x ∈ L, 0 < refK x.f0 ∧ x.f1.size = 32) (hc : chk h L = 0) : Ev (fun k => refs_Decode.f k (mk (enc h L))) (h, L, 0) := by
  have g := dec_l0 h L hL hn hc L.length 0 (by omega) (by omega)
  obtain ⟨n1, n2, n3⟩ := refK_fine _ hh
  have hz := flat_len L (fun x hx => ⟨(refK_fine _ (hn x hx).1).1, (hn x hx).2⟩)
  rw [List.drop_zero, List.take_zero] at g
  have e1 : enc h L = ([104, 101, 97, 100, 32] ++ h.toList) ++ 10 :: L.flatMap line := by
    unfold enc headL
    simp [List.append_assoc]
  have c1 := cut_eq (mk (enc h L)) 10 (by rw [mk_size, e1, List.length_append, List.length_append, List.length_cons, toList_length]; simp only [List.length_cons, List.length_nil]; omega)
  rw [e1, cut_mk _ (L.flatMap line) 10 (by simp only [List.mem_append, not_or]; exact ⟨by decide, n2⟩)] at c1
  have c2 := cutp (mk ([104, 101, 97, 100, 32] ++ h.toList)) (⟨#[104, 101, 97, 100, 32]⟩ : ByteArray)
  have s5 : (⟨#[104, 101, 97, 100, 32]⟩ : ByteArray).size = 5 := rfl
  have d5 : (⟨#[104, 101, 97, 100, 32]⟩ : ByteArray).toList = [104, 101, 97, 100, 32] := toList_lit _
  rw [s5, if_pos ⟨by rw [mk_size, List.length_append]; simp only [List.length_cons, List.length_nil]; omega, by rw [toList_extract, toList_mk, d5]; rfl⟩] at c2
  have e2 : (mk ([104, 101, 97, 100, 32] ++ h.toList)).extract 5 (mk ([104, 101, 97, 100, 32] ++ h.toList)).size = h := by
    apply ba_ext
    rw [toList_from, toList_mk]
    rfl
  rw [e2] at c2
  unfold refs_Decode.f
  rw [e1, c1]
  refine Ev.congr (fun k => Option.bind_some _ _) ?_
  dsimp only
  rw [c2]
  refine Ev.congr (fun k => Option.bind_some _ _) ?_
  refine Ev.congr (fun k => if_pos rfl) ?_
  refine Ev.step (fun k => ?_) g
  simp only [refs_Decode.j0]
  rw [if_neg (by simp)]
end Go.Proofs.Ytgepbdkbleapaaa.Pl
