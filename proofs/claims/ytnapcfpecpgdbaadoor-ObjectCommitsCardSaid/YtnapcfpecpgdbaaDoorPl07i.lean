/- Commits put together by the reference, and the law's own comparison. -/
import Derived.Test.YtnapcfpecpgdbaaDoorPl07g
import Derived.Test.YtnapcfpecpgdbaaDoorMx29
import Derived.Test.YtnapcfpecpgdbaaDoorMx31
namespace Go.Proofs.YtnapcfpecpgdbaaDoor.Pl
set_option linter.unusedVariables false
set_option linter.unusedSimpArgs false
open Go.RowKit Go.Proofs.YtnapcfpecpgdbaaDoor.M Go.Proofs.YtnapcfpecpgdbaaDoorW.PrintWords Go.Proofs.YtnapcfpecpgdbaaDoorW.PrintLast

theorem same_l0 (ps : List ByteArray) (hp : ps.length ≤ 100000) (T a t : ByteArray) (n : Int) : ∀ (m i : Nat), i + m = ps.length → Ev (fun k => pollardlaw07_same.l0 k (i : Int) T ps a n t T ps a n t) true
  | 0, i, h => by
    refine Ev.step (f := fun _ => some true) (fun k => ?_) (Ev.now _)
    rw [pollardlaw07_same.l0, if_neg (by omega), if_pos rfl, if_pos rfl, if_pos rfl, beq_self_eq_true]
  | m + 1, i, h => by
    refine Ev.step (f := fun k => pollardlaw07_same.l0 k ((i + 1 : Nat) : Int) T ps a n t T ps a n t) (fun k => ?_) (same_l0 ps hp T a t n m (i + 1) (by omega))
    rw [pollardlaw07_same.l0, if_pos (by omega), if_pos (by omega), if_pos (by omega), if_pos rfl, w64 (by omega) (by omega)]
    rfl
theorem same_ev (ps : List ByteArray) (hp : ps.length ≤ 100000) (T a t : ByteArray) (n : Int) : Ev (fun k => pollardlaw07_same.f k T ps a n t T ps a n t) true := by
  unfold pollardlaw07_same.f
  simp only [if_true]
  exact same_l0 ps hp T a t n ps.length 0 (by omega)
def parsL : List (List UInt8) → List UInt8
  | [] => []
  | p :: ps => wParent ++ 32 :: (hexL p ++ 10 :: parsL ps)
def endL (a : List UInt8) (n : Nat) (t : List UInt8) : List UInt8 := wAuthor ++ 32 :: (a ++ 10 :: (wTime ++ 32 :: (decL n ++ 10 :: (10 :: t))))
/-- A commit's body. -/
def putC (T : List UInt8) (ps : List (List UInt8)) (a : List UInt8) (n : Nat) (t : List UInt8) : List UInt8 := wTree ++ 32 :: (hexL T ++ 10 :: (parsL ps ++ endL a n t))
theorem parsL_append : ∀ a b : List (List UInt8), parsL (a ++ b) = parsL a ++ parsL b
  | [], b => rfl
  | p :: a, b => by rw [List.cons_append, parsL, parsL, parsL_append a b]; simp
theorem rest_back {l a t : List UInt8} {n : Int} (h : restL l = some (a, n, t)) : l = endL a n.toNat t ∧ 0 ≤ n ∧ n < 18446744073709551616 := by
  unfold restL at h
  obtain ⟨x, h1, h⟩ := Option.bind_eq_some_iff.mp h
  obtain ⟨y, h2, h⟩ := Option.bind_eq_some_iff.mp h
  obtain ⟨t', h3, h⟩ := Option.bind_eq_some_iff.mp h
  split at h
  · rename_i hu
    have h' := Option.some.inj h
    simp only [Prod.mk.injEq] at h'
    obtain ⟨rfl, rfl, rfl⟩ := h'
    have b1 := (lineL_back (t := x.1) (r := x.2) h1).1
    have b2 := (lineL_back (t := y.1) (r := y.2) h2).1
    have b3 := blankL_some h3
    have hd : y.1 = decL (undecV y.1).1.toNat ∧ 0 ≤ (undecV y.1).1 ∧ (undecV y.1).1 < 18446744073709551616 := by
      unfold undecV at hu ⊢
      cases hg : code_Undec.go (ints y.1) 0 with
      | none =>
        rw [hg] at hu
        exact absurd (show (6 : Int) = 0 from hu) (by decide)
      | some m =>
        rw [hg] at hu
        have hr := go_range _ _ _ (by omega) (by omega) hg
        simp only at hu ⊢
        by_cases h0 : y.1 = []
        · rw [if_pos h0] at hu
          exact absurd (show (6 : Int) = 0 from hu) (by decide)
        · rw [if_neg h0] at hu
          rw [if_neg h0]
          by_cases hf : y.1 = decL m.toNat
          · rw [if_pos hf]
            exact ⟨hf, hr⟩
          · rw [if_neg hf] at hu
            exact absurd (show (6 : Int) = 0 from hu) (by decide)
    refine ⟨?_, hd.2⟩
    unfold endL
    rw [← hd.1, ← b3, ← b2, ← b1]
  · cases h
theorem parents_back : ∀ (f : Nat) (l : List UInt8) (p : List (List UInt8) × List UInt8), parentsL f l = some p → l = parsL p.1 ++ p.2 ∧ 40 * p.1.length ≤ l.length
  | 0, l, p, h => by cases h
  | f + 1, l, p, h => by
    rw [parentsL] at h
    split at h
    · have := Option.some.inj h
      rw [← this]
      exact ⟨rfl, by simp⟩
    · rename_i x hx
      split at h
      · rename_i hid
        obtain ⟨q, hq, rfl⟩ := Option.map_eq_some_iff.mp h
        obtain ⟨h1, h2⟩ := parents_back f x.2 q hq
        obtain ⟨r, hr, hr2, hr3⟩ := idV_true hid
        have b1 := (lineL_back (t := x.1) (r := x.2) hx).1
        have hx1 : hexL r = x.1 := hex_unhex x.1 r hr
        have hl1 := hexL_length r
        simp only [hr3, toList_mk, parsL, List.length_cons]
        rw [hx1]
        constructor
        · conv => lhs; rw [b1, h1]
          simp
        · rw [b1]
          simp only [List.length_append, List.length_cons, wParent, List.length_nil]
          rw [hx1] at hl1
          omega
      · cases h
theorem putc_l0 (ps : List ByteArray) (T a t : ByteArray) (n : Nat) (hn : n < 18446744073709551616) (hp : ps.length ≤ 1000) (hall : ∀ p ∈ ps, p.size ≤ 100000) (ha : a.size ≤ 100000) (ht : t.size ≤ 100000) : ∀ (m i : Nat) (acc : List UInt8), i + m = ps.length → acc.length ≤ 1000000 + i * 1000000 →
    Ev (fun k => pollardref07_PutCommit.l0 k (mk acc) (i : Int) T ps a (n : Int) t) (mk (acc ++ (parsL ((ps.drop i).map (·.toList)) ++ endL a.toList n t.toList)))
  | 0, i, acc, h, hacc => by
    have hd := decL_short n hn
    have w1 : (⟨#[97, 117, 116, 104, 111, 114, 32]⟩ : ByteArray) = mk [97, 117, 116, 104, 111, 114, 32] := rfl
    have w2 : (⟨#[10, 116, 105, 109, 101, 32]⟩ : ByteArray) = mk [10, 116, 105, 109, 101, 32] := rfl
    have w3 : (⟨#[10, 10]⟩ : ByteArray) = mk [10, 10] := rfl
    have hi : i ≤ 1000 := by omega
    have hal := toList_length a
    have htl := toList_length t
    rw [List.drop_eq_nil_of_le (by omega), List.map_nil, parsL, List.nil_append]
    have z1 : (mk acc).size + 7 ≤ 9223372036854775807 := by rw [mk_size]; omega
    have z2 : (mk acc ++ mk [97, 117, 116, 104, 111, 114, 32]).size + a.size ≤ 9223372036854775807 := by
      rw [ByteArray.size_append, mk_size, mk_size]
      simp only [List.length_cons, List.length_nil]
      omega
    have z3 : (mk acc ++ mk [97, 117, 116, 104, 111, 114, 32] ++ a).size + 6 ≤ 9223372036854775807 := by
      rw [ByteArray.size_append, ByteArray.size_append, mk_size, mk_size]
      simp only [List.length_cons, List.length_nil]
      omega
    refine Ev.step (fun k => by rw [pollardref07_PutCommit.l0, if_neg (by omega), w1, w2, w3, if_pos z1, if_pos z2, if_pos z3]) ?_
    refine Ev.bind (dec_ref n hn) ?_
    simp only [ByteArray.size_append, mk_size, List.length_cons, List.length_nil]
    rw [if_pos (by omega), if_pos (by omega), if_pos (by omega)]
    have e : (mk acc ++ mk [97, 117, 116, 104, 111, 114, 32] ++ a ++ mk [10, 116, 105, 109, 101, 32] ++ mk (decL n) ++ mk [10, 10] ++ t) = mk (acc ++ endL a.toList n t.toList) := by
      apply ba_ext
      simp only [toList_append, toList_mk]
      unfold endL wAuthor wTime
      simp
    rw [e]
    exact Ev.now _
  | m + 1, i, acc, h, hacc => by
    have hlt : i < ps.length := by omega
    have w1 : (⟨#[112, 97, 114, 101, 110, 116, 32]⟩ : ByteArray) = mk [112, 97, 114, 101, 110, 116, 32] := rfl
    have w2 : (⟨#[10]⟩ : ByteArray) = mk [10] := rfl
    have hsz := hall _ (List.getElem_mem hlt)
    have hx := hexL_length ps[i].toList
    rw [toList_length] at hx
    refine Ev.step (f := fun k => (pollardref02_Hex.f k ps[i]).bind fun t231 => (if 7 + t231.size ≤ 9223372036854775807 then (if (7 + t231.size) + 1 ≤ 9223372036854775807 then (if (mk acc).size + ((7 + t231.size) + 1) ≤ 9223372036854775807 then (pollardref07_PutCommit.l0 k (mk acc ++ ((mk [112, 97, 114, 101, 110, 116, 32] ++ t231) ++ mk [10])) ((i + 1 : Nat) : Int) T ps a (n : Int) t) else (none)) else (none)) else (none))) (fun k => ?_) ?_
    · rw [pollardref07_PutCommit.l0, if_pos (by omega), if_pos (by omega), rd_at ps i hlt, w1, w2, w64 (by omega) (by omega)]
      rfl
    · refine Ev.bind (hex_ref ps[i] (by omega)) ?_
      simp only [mk_size, mk_append, hx, if_pos (show 7 + 2 * ps[i].size ≤ 9223372036854775807 by omega), if_pos (show 7 + 2 * ps[i].size + 1 ≤ 9223372036854775807 by omega), if_pos (show acc.length + (7 + 2 * ps[i].size + 1) ≤ 9223372036854775807 by omega)]
      have ih := putc_l0 ps T a t n hn hp hall ha ht m (i + 1) (acc ++ ([112, 97, 114, 101, 110, 116, 32] ++ hexL ps[i].toList ++ [10])) (by omega) (by
        simp only [List.length_append, List.length_cons, List.length_nil, hx]
        omega)
      have e : acc ++ ([112, 97, 114, 101, 110, 116, 32] ++ hexL ps[i].toList ++ [10]) ++ (parsL ((ps.drop (i + 1)).map (·.toList)) ++ endL a.toList n t.toList) = acc ++ (parsL ((ps.drop i).map (·.toList)) ++ endL a.toList n t.toList) := by
        rw [List.drop_eq_getElem_cons hlt, List.map_cons, parsL]
        unfold wParent
        simp
      rw [e] at ih
      exact ih
theorem putc_ref (ps : List ByteArray) (T a t : ByteArray) (n : Nat) (hn : n < 18446744073709551616) (hp : ps.length ≤ 1000) (hall : ∀ p ∈ ps, p.size ≤ 100000) (hT : T.size ≤ 100000) (ha : a.size ≤ 100000) (ht : t.size ≤ 100000) :
    Ev (fun k => pollardref07_PutCommit.f k T ps a (n : Int) t) (mk (putC T.toList (ps.map (·.toList)) a.toList n t.toList)) := by
  have w1 : (⟨#[116, 114, 101, 101, 32]⟩ : ByteArray) = mk [116, 114, 101, 101, 32] := rfl
  have w2 : (⟨#[10]⟩ : ByteArray) = mk [10] := rfl
  have hx := hexL_length T.toList
  rw [toList_length] at hx
  unfold pollardref07_PutCommit.f
  refine Ev.bind (hex_ref T (by omega)) ?_
  simp only [w1, w2, mk_size, mk_append, hx, if_pos (show 5 + 2 * T.size ≤ 9223372036854775807 by omega), if_pos (show 5 + 2 * T.size + 1 ≤ 9223372036854775807 by omega)]
  have := putc_l0 ps T a t n hn hp hall ha ht ps.length 0 ([116, 114, 101, 101, 32] ++ hexL T.toList ++ [10]) (by omega) (by
    simp only [List.length_append, List.length_cons, List.length_nil, hx]
    omega)
  rw [List.drop_zero] at this
  have e : [116, 114, 101, 101, 32] ++ hexL T.toList ++ [10] ++ (parsL (ps.map (·.toList)) ++ endL a.toList n t.toList) = putC T.toList (ps.map (·.toList)) a.toList n t.toList := by
    unfold putC wTree
    simp
  rw [e] at this
  exact this
end Go.Proofs.YtnapcfpecpgdbaaDoor.Pl
