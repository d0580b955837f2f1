/- Numbers read, objects' bytes put together and opened: what the program and the reference come to; and that the law is awake. -/
import Derived.Test.YtnapcfpecpgdbaaPl07
namespace Go.Proofs.Ytnapcfpecpgdbaa.Pl
set_option linter.unusedVariables false
set_option linter.unusedSimpArgs false
open Go.RowKit Go.Proofs.Ytnapcfpecpgdbaa.M Go.Proofs.YtnapcfpecpgdbaaW.PrintWords Go.Proofs.YtnapcfpecpgdbaaW.PrintLast

def ints (l : List UInt8) : List Int := l.map fun b => (b.toNat : Int)
theorem bytesOf_ints (s : ByteArray) : bytesOf s = ints s.toList := by rw [toList_eq]; rfl
theorem go_append : ∀ (a b : List Int) (n : Int), code_Undec.go (a ++ b) n = (code_Undec.go a n).bind (code_Undec.go b)
  | [], b, n => by rw [List.nil_append, code_Undec.go, Option.bind_some]
  | c :: a, b, n => by
    rw [List.cons_append, code_Undec.go, code_Undec.go]
    split
    · rfl
    · split
      · rfl
      · split
        · rfl
        · exact go_append a b _
theorem decL_mem (n : Nat) : ∀ c ∈ decL n, 48 ≤ c.toNat ∧ c.toNat ≤ 57 := by
  induction n using Nat.strongRecOn with
  | _ n ih =>
    have one : ∀ d, d < 10 → 48 ≤ (UInt8.ofNat (48 + d)).toNat ∧ (UInt8.ofNat (48 + d)).toNat ≤ 57 := by
      intro d hd
      rw [UInt8.toNat_ofNat']
      omega
    intro c hc
    rw [decL] at hc
    split at hc
    · rename_i h
      rw [List.mem_singleton] at hc
      rw [hc]
      exact one n h
    · rename_i h
      rcases List.mem_append.mp hc with hc | hc
      · exact ih (n / 10) (by omega) c hc
      · rw [List.mem_singleton] at hc
        rw [hc]
        exact one _ (by omega)
theorem decL_ne (n : Nat) : decL n ≠ [] := by
  rw [decL]
  split <;> simp
theorem go_dec (n : Nat) : n < 18446744073709551616 → code_Undec.go (ints (decL n)) 0 = some (n : Int) := by
  induction n using Nat.strongRecOn with
  | _ n ih =>
    intro hn
    have one : ∀ (d m : Nat), d < 10 → m * 10 + d < 18446744073709551616 → code_Undec.go (ints [UInt8.ofNat (48 + d)]) (m : Int) = some ((m * 10 + d : Nat) : Int) := by
      intro d m hd hm
      have e : ints [UInt8.ofNat (48 + d)] = [((48 + d : Nat) : Int)] := by
        simp only [ints, List.map_cons, List.map_nil, UInt8.toNat_ofNat']
        rw [Nat.mod_eq_of_lt (by omega)]
      rw [e, code_Undec.go, if_neg (by omega), if_neg (by omega), if_neg (by omega), code_Undec.go]
      congr 1
      omega
    rw [decL]
    split
    · rename_i h
      have := one n 0 h (by omega)
      simpa using this
    · rename_i h
      rw [ints, List.map_append]
      have h1 := ih (n / 10) (by omega) (by omega)
      rw [ints] at h1
      rw [go_append, h1, Option.bind_some]
      have h2 := one (n % 10) (n / 10) (by omega) (by omega)
      rw [ints] at h2
      rw [h2]
      congr 2
      omega
theorem go_range : ∀ (l : List UInt8) (n m : Int), 0 ≤ n → n < 18446744073709551616 → code_Undec.go (ints l) n = some m → 0 ≤ m ∧ m < 18446744073709551616
  | [], n, m, h0, h1, h => by
    rw [ints, List.map_nil, code_Undec.go] at h
    rw [← Option.some.inj h]
    exact ⟨h0, h1⟩
  | c :: l, n, m, h0, h1, h => by
    rw [ints, List.map_cons, code_Undec.go] at h
    split at h
    · cases h
    · split at h
      · cases h
      · split at h
        · cases h
        · exact go_range l _ m (by omega) (by omega) h
/-- The number of decimal digits, in their only form; or that they are none. -/
def undecV (l : List UInt8) : Int × Int := match code_Undec.go (ints l) 0 with
  | none => (0, 6)
  | some n => if l = [] then (0, 6) else if l = decL n.toNat then (n, 0) else (0, 6)
theorem undec_prog (s : ByteArray) (hs : s.size ≤ 70368744177664) : Ev (fun k => code_Undec.f k s) (undecV s.toList) := by
  unfold undecV
  cases hg : code_Undec.go (ints s.toList) 0 with
  | none =>
    refine Ev.congr (f := fun _ => some (0, 6)) (fun k => ?_) (Ev.now _)
    unfold code_Undec.f
    rw [if_pos hs, bytesOf_ints, hg]
  | some n =>
    have hr := go_range _ _ _ (by omega) (by omega) hg
    by_cases hz : s.size = 0
    · have : s.toList = [] := size_zero.mpr hz
      refine Ev.congr (f := fun _ => some (0, 6)) (fun k => ?_) ?_
      · unfold code_Undec.f
        rw [if_pos hs, bytesOf_ints, hg]
        simp only
        rw [if_pos hz]
      · simp only
        rw [if_pos this]
        exact Ev.now _
    · have hne : s.toList ≠ [] := fun h => hz (size_zero.mp h)
      refine Ev.congr (f := fun k => (code_Dec.f k n).bind fun d => if s = d then some (n, 0) else some (0, 6)) (fun k => ?_) ?_
      · unfold code_Undec.f
        rw [if_pos hs, bytesOf_ints, hg]
        simp only
        rw [if_neg hz]
      · simp only
        rw [if_neg hne]
        have hd := dec_prog n.toNat (by omega)
        rw [Int.toNat_of_nonneg hr.1] at hd
        refine Ev.bind hd ?_
        by_cases he : s.toList = decL n.toNat
        · rw [if_pos he, if_pos (by rw [← he, mk_toList])]
          exact Ev.now _
        · rw [if_neg he, if_neg (fun h => he (by rw [h, toList_mk]))]
          exact Ev.now _
theorem undecV_dec (n : Nat) (h : n < 18446744073709551616) : undecV (decL n) = ((n : Int), 0) := by
  unfold undecV
  rw [go_dec n h]
  simp only
  rw [if_neg (decL_ne n), Int.toNat_natCast, if_pos rfl]

/-- The word of a kind. -/
def kword (m : Int) : List UInt8 := if m = 1 then [98, 108, 111, 98] else if m = 2 then [116, 114, 101, 101] else if m = 3 then [99, 111, 109, 109, 105, 116] else if m = 4 then [116, 97, 103] else []
/-- Which of the kinds' words a text is. -/
def kidx (w : List UInt8) : Int := if w = [] then 0 else if w = kword 1 then 1 else if w = kword 2 then 2 else if w = kword 3 then 3 else if w = kword 4 then 4 else -1
theorem index_kinds (w : ByteArray) : Ev (fun k => (object_kinds.f).bind fun t => slices_Index_string_string.f k t w) (kidx w.toList) := by
  refine ⟨6, fun k hk => ?_⟩
  obtain ⟨k, rfl⟩ : ∃ j, k = j + 6 := ⟨k - 6, by omega⟩
  have r0 : ∀ l : List UInt8, (⟨⟨l⟩⟩ : ByteArray).toList = l := fun l => by rw [toList_eq]
  have w0 : wrap64 (0 + 1) = 1 := by unfold wrap64; omega
  have w1 : wrap64 (1 + 1) = 2 := by unfold wrap64; omega
  have w2 : wrap64 (2 + 1) = 3 := by unfold wrap64; omega
  have w3 : wrap64 (3 + 1) = 4 := by unfold wrap64; omega
  have w4 : wrap64 (4 + 1) = 5 := by unfold wrap64; omega
  unfold object_kinds.f slices_Index_string_string.f
  simp only [Option.bind_some, slices_Index_string_string.l0, List.length_cons, List.length_nil, w0, w1, w2, w3, w4, rdOf, Int.toNat_zero, show (1 : Int).toNat = 1 from rfl, show (2 : Int).toNat = 2 from rfl, show (3 : Int).toNat = 3 from rfl, show (4 : Int).toNat = 4 from rfl, List.getD_cons_zero, List.getD_cons_succ, r0]
  unfold kidx kword
  generalize w.toList = l
  simp
  repeat' split
  all_goals rfl
theorem kidx_word (m : Int) (h : 1 ≤ m ∧ m ≤ 4) : kidx (kword m) = m := by
  have : m = 1 ∨ m = 2 ∨ m = 3 ∨ m = 4 := by omega
  rcases this with rfl | rfl | rfl | rfl <;> decide
theorem kword_rd (m : Int) (h : 1 ≤ m ∧ m ≤ 4) : rdOf ByteArray.empty object_Raw.words m = mk (kword m) := by
  have : m = 1 ∨ m = 2 ∨ m = 3 ∨ m = 4 := by omega
  rcases this with rfl | rfl | rfl | rfl <;> rfl
theorem kword_mem (m : Int) (h : 1 ≤ m ∧ m ≤ 4) : (0 : UInt8) ∉ kword m ∧ (32 : UInt8) ∉ kword m ∧ (kword m).length ≤ 6 := by
  have : m = 1 ∨ m = 2 ∨ m = 3 ∨ m = 4 := by omega
  rcases this with rfl | rfl | rfl | rfl <;> decide

/-- strings.Cut at a byte. -/
def cutV (s : ByteArray) (c : UInt8) : ByteArray × ByteArray × Bool := if 0 ≤ Lib.indexByte s.toList c then (s.extract 0 (Lib.indexByte s.toList c).toNat, s.extract ((Lib.indexByte s.toList c).toNat + 1) s.size, true) else (s, (⟨#[]⟩ : ByteArray), false)
theorem cut_eq (s : ByteArray) (c : UInt8) (hs : s.size ≤ 140737488351232) : strings_Cut.f s ⟨#[c]⟩ = some (cutV s c) := by
  unfold strings_Cut.f cutV
  rw [if_pos ⟨rfl, hs⟩, toList_eq]
  show (if 0 ≤ Lib.indexByte s.data.toList c then _ else _) = _
  split <;> rfl
theorem cut_mk (l r : List UInt8) (c : UInt8) (h : c ∉ l) : cutV (mk (l ++ c :: r)) c = (mk l, mk r, true) := by
  unfold cutV
  rw [toList_mk, index_first l r c h, if_pos (by omega), Int.toNat_natCast]
  congr 1
  · apply ba_ext
    rw [toList_extract, toList_mk, toList_mk, List.drop_zero, Nat.sub_zero, List.take_left]
  · congr 1
    apply ba_ext
    rw [toList_from, toList_mk, toList_mk]
    rw [show l ++ c :: r = (l ++ [c]) ++ r by rw [List.append_assoc]; rfl]
    exact List.drop_left' (by simp)
theorem cutV_size (s : ByteArray) (c : UInt8) : (cutV s c).1.size ≤ s.size ∧ (cutV s c).2.1.size ≤ s.size := by
  unfold cutV
  split
  · simp only [ByteArray.size_extract]
    omega
  · exact ⟨Nat.le_refl _, Nat.zero_le _⟩

/-- The kind and the body of an object's bytes, or the error. -/
def openV (s : ByteArray) : Int × ByteArray × Int :=
  if ((cutV s 0).2.2 && (cutV (cutV s 0).1 32).2.2) = true then
    (if kidx (cutV (cutV s 0).1 32).1.toList < 1 then (0, ⟨#[]⟩, 70) else
      if (undecV (cutV (cutV s 0).1 32).2.1.toList).2 = 0 then
        (if (undecV (cutV (cutV s 0).1 32).2.1.toList).1 > 262144 then (0, ⟨#[]⟩, 3) else
          if (undecV (cutV (cutV s 0).1 32).2.1.toList).1 > ((cutV s 0).2.1.size : Int) then (0, ⟨#[]⟩, 4) else
            if (undecV (cutV (cutV s 0).1 32).2.1.toList).1 < ((cutV s 0).2.1.size : Int) then (0, ⟨#[]⟩, 5) else
              (kidx (cutV (cutV s 0).1 32).1.toList, (cutV s 0).2.1, 0))
      else (0, ⟨#[]⟩, (undecV (cutV (cutV s 0).1 32).2.1.toList).2))
  else (0, ⟨#[]⟩, 6)
theorem undecV_range (l : List UInt8) : 0 ≤ (undecV l).1 := by
  unfold undecV
  split
  · exact Int.le_refl 0
  · rename_i n h
    split
    · exact Int.le_refl 0
    · split
      · exact (go_range _ _ _ (by omega) (by omega) h).1
      · exact Int.le_refl 0
theorem open_j0 (b d : ByteArray) (hd : d.size ≤ 70368744177664) (t : Int) (odd : Bool) : Ev (fun k => object_Open.j0 k b d t odd) (if odd = true then (0, ⟨#[]⟩, 6) else if t < 1 then (0, ⟨#[]⟩, 70) else if (undecV d.toList).2 = 0 then (if (undecV d.toList).1 > 262144 then (0, ⟨#[]⟩, 3) else if (undecV d.toList).1 > (b.size : Int) then (0, ⟨#[]⟩, 4) else if (undecV d.toList).1 < (b.size : Int) then (0, ⟨#[]⟩, 5) else (t, b, 0)) else (0, ⟨#[]⟩, (undecV d.toList).2)) := by
  refine Ev.step (fun k => by rw [object_Open.j0]) ?_
  by_cases h1 : odd = true
  · simp only [if_pos h1]
    exact Ev.now _
  · simp only [if_neg h1]
    by_cases h2 : t < 1
    · simp only [if_pos h2]
      exact Ev.now _
    · simp only [if_neg h2]
      refine Ev.bind (undec_prog d hd) ?_
      by_cases h3 : (undecV d.toList).2 = 0
      · simp only [if_pos h3]
        by_cases h4 : (undecV d.toList).1 > 262144
        · simp only [if_pos h4]
          exact Ev.now _
        · have := undecV_range d.toList
          simp only [if_neg h4, w64 (x := (undecV d.toList).1) (by omega) (by omega)]
          by_cases h5 : (undecV d.toList).1 > (b.size : Int)
          · simp only [if_pos h5]
            exact Ev.now _
          · simp only [if_neg h5]
            by_cases h6 : (undecV d.toList).1 < (b.size : Int)
            · simp only [if_pos h6]
              exact Ev.now _
            · simp only [if_neg h6]
              exact Ev.now _
      · simp only [if_neg h3]
        exact Ev.now _
theorem open_prog (s : ByteArray) (hs : s.size ≤ 70368744177664) : Ev (fun k => object_Open.f k s) (openV s) := by
  have s1 := cutV_size s 0
  have s2 := cutV_size (cutV s 0).1 32
  refine Ev.congr (f := fun k => ((object_kinds.f).bind fun t => slices_Index_string_string.f k t (cutV (cutV s 0).1 32).1).bind fun t114 => object_Open.j0 k (cutV s 0).2.1 (cutV (cutV s 0).1 32).2.1 t114 (!((cutV s 0).2.2 && (cutV (cutV s 0).1 32).2.2))) (fun k => ?_) ?_
  · unfold object_Open.f
    rw [cut_eq s 0 (by omega), Option.bind_some, cut_eq _ 32 (by omega), Option.bind_some, Option.bind_assoc]
    congr 1
    funext t
    congr 1
    funext t2
    cases (cutV s 0).2.2 <;> cases (cutV (cutV s 0).1 32).2.2 <;> simp
  · refine Ev.bind (index_kinds _) ?_
    have h := open_j0 (cutV s 0).2.1 (cutV (cutV s 0).1 32).2.1 (by omega) (kidx (cutV (cutV s 0).1 32).1.toList) (!((cutV s 0).2.2 && (cutV (cutV s 0).1 32).2.2))
    unfold openV
    cases hb : ((cutV s 0).2.2 && (cutV (cutV s 0).1 32).2.2) with
    | true =>
      rw [hb] at h
      exact h
    | false =>
      rw [hb] at h
      exact h

/-- An object's bytes. -/
def raw (m : Int) (b : ByteArray) : ByteArray := mk (kword m ++ 32 :: (decL b.size ++ 0 :: b.toList))
theorem dig_ne (n : Nat) : (0 : UInt8) ∉ decL n := fun h => by have := (decL_mem n 0 h).1; simp at this
theorem open_raw (m : Int) (hm : 1 ≤ m ∧ m ≤ 4) (b : ByteArray) (hb : b.size ≤ 70368744177664) : openV (raw m b) = if (b.size : Int) > 262144 then (0, ⟨#[]⟩, 3) else (m, b, 0) := by
  obtain ⟨h0, h32, hl⟩ := kword_mem m hm
  have e1 : cutV (raw m b) 0 = (mk (kword m ++ 32 :: decL b.size), mk b.toList, true) := by
    unfold raw
    rw [show kword m ++ 32 :: (decL b.size ++ 0 :: b.toList) = (kword m ++ 32 :: decL b.size) ++ 0 :: b.toList by simp]
    apply cut_mk
    intro h
    rcases List.mem_append.mp h with h | h
    · exact h0 h
    · rcases List.mem_cons.mp h with h | h
      · cases h
      · exact dig_ne _ h
  have e2 : cutV (mk (kword m ++ 32 :: decL b.size)) 32 = (mk (kword m), mk (decL b.size), true) := cut_mk _ _ _ h32
  unfold openV
  simp only [e1, e2, Bool.and_self, if_true, toList_mk, kidx_word m hm, undecV_dec b.size (by omega), mk_toList]
  rw [if_neg (by omega), if_neg (Int.lt_irrefl _), if_neg (show ¬ ((b.size : Int) > (b.size : Int)) from Int.lt_irrefl _)]
theorem raw_eq (m : Int) (b : ByteArray) : mk (kword m) ++ (⟨#[32]⟩ : ByteArray) ++ mk (decL b.size) ++ (⟨#[0]⟩ : ByteArray) ++ b = raw m b := by
  have e1 : (⟨#[32]⟩ : ByteArray) = mk [32] := rfl
  have e2 : (⟨#[0]⟩ : ByteArray) = mk [0] := rfl
  conv => lhs; rw [← mk_toList b]
  rw [e1, e2, mk_append, mk_append, mk_append, mk_append]
  unfold raw
  simp [mk_toList]
theorem raw_prog (m : Int) (hm : 1 ≤ m ∧ m ≤ 4) (b : ByteArray) (hb : b.size ≤ 262144) : Ev (fun k => object_Raw.f k m b) (raw m b, 0) := by
  refine Ev.congr (f := fun k => (code_Dec.f k (b.size : Int)).bind fun d => if d.size ≤ 1000 then some (mk (kword m) ++ ⟨#[32]⟩ ++ d ++ ⟨#[0]⟩ ++ b, 0) else none) (fun k => ?_) ?_
  · unfold object_Raw.f
    rw [if_neg (by omega), if_neg (by omega), if_neg (by omega), u64w (by omega) (by omega), kword_rd m hm]
  · refine Ev.bind (dec_prog b.size (by omega)) ?_
    have := decL_short b.size (by omega)
    rw [if_pos (by rw [mk_size]; omega), raw_eq]
    exact Ev.now _
theorem raw_much (m : Int) (hm : 1 ≤ m ∧ m ≤ 4) (b : ByteArray) (hb : 262144 < b.size) (k : Nat) : object_Raw.f k m b = some (⟨#[]⟩, 3) := by
  unfold object_Raw.f
  rw [if_neg (by omega), if_neg (by omega), if_pos (by omega)]
theorem raw_odd (m : Int) (hm : m < 1 ∨ 4 < m) (b : ByteArray) (k : Nat) : object_Raw.f k m b = some (⟨#[]⟩, 70) := by
  unfold object_Raw.f
  rcases hm with h | h
  · rw [if_pos h]
  · rw [if_neg (by omega), if_pos h]
theorem sum_of (s : ByteArray) (hs : s.size ≤ 70368744177664) : sum_Of.f s = some (sum_hash s) := by
  unfold sum_Of.f
  rw [if_pos hs]
theorem id_of (s : ByteArray) (hs : s.size ≤ 70368744177664) : object_ID.f s = some (sum_hash s) := by
  unfold object_ID.f
  rw [sum_of s hs]
  rfl
theorem awake : Ev (fun k => pollardlaw07_awake.f k) true := by
  have hr := raw_prog 1 (by omega) ⟨#[]⟩ (by decide)
  have e1 : (raw 1 ⟨#[]⟩).toList = ([98, 108, 111, 98, 32, 48, 0] : List UInt8) := by
    unfold raw
    rw [toList_mk, toList_nil]
    show kword 1 ++ 32 :: (decL 0 ++ [0]) = _
    rw [decL, if_pos (by decide)]
    rfl
  have hz : (raw 1 ⟨#[]⟩).size = 7 := by rw [← toList_length, e1]; rfl
  have ho := open_prog (raw 1 ⟨#[]⟩) (by omega)
  rw [open_raw 1 (by omega) _ (by decide)] at ho
  unfold pollardlaw07_awake.f
  refine Ev.bind hr ?_
  refine Ev.bind ho ?_
  simp only [id_of _ (show (raw 1 ⟨#[]⟩).size ≤ 70368744177664 by omega), e1, if_true, sum_hash_size, Option.bind_some]
  have e2 : (⟨#[]⟩ : ByteArray).toList = [] := toList_nil
  simp only [show ¬ (((⟨#[]⟩ : ByteArray).size : Int) > 262144) by decide, if_false, if_true, e2]
  exact Ev.now _
end Go.Proofs.Ytnapcfpecpgdbaa.Pl
