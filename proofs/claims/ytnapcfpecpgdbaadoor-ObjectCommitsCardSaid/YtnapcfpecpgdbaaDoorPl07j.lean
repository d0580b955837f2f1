/- Commits put together by the program, and read again. -/
import Derived.Test.YtnapcfpecpgdbaaDoorPl07i
import Derived.Test.YtnapcfpecpgdbaaDoorPl07p
import Derived.Test.YtnapcfpecpgdbaaDoorPlName10
import Derived.Test.YtnapcfpecpgdbaaDoorMx33
namespace Go.Proofs.YtnapcfpecpgdbaaDoor.Pl
set_option linter.unusedVariables false
set_option linter.unusedSimpArgs false
open Go.RowKit Go.Proofs.YtnapcfpecpgdbaaDoor.M Go.Proofs.YtnapcfpecpgdbaaDoorW.PrintWords Go.Proofs.YtnapcfpecpgdbaaDoorW.PrintLast

theorem putp_l0 (ps : List ByteArray) (T a t : ByteArray) (n : Nat) (hn : n < 18446744073709551616) (hp : ps.length ≤ 1000) (hall : ∀ p ∈ ps, p.size ≤ 100000) (ha : a.size ≤ 100000) (ht : t.size ≤ 100000) : ∀ (m i : Nat) (acc : List UInt8), i + m = ps.length → acc.length ≤ 1000000 + i * 1000000 →
    Ev (fun k => object_PutCommit.l0 k (mk acc) ps (ps.length : Int) (i : Int) T ps a (n : Int) t) (mk (acc ++ (parsL ((ps.drop i).map (·.toList)) ++ endL a.toList n t.toList)), 0)
  | 0, i, acc, h, hacc => by
    have hd := decL_short n hn
    have w1 : (⟨#[97, 117, 116, 104, 111, 114, 32]⟩ : ByteArray) = mk [97, 117, 116, 104, 111, 114, 32] := rfl
    have w2 : (⟨#[10, 116, 105, 109, 101, 32]⟩ : ByteArray) = mk [10, 116, 105, 109, 101, 32] := rfl
    have w3 : (⟨#[10, 10]⟩ : ByteArray) = mk [10, 10] := rfl
    have hi : i ≤ 1000 := by omega
    rw [List.drop_eq_nil_of_le (by omega), List.map_nil, parsL, List.nil_append]
    have z1 : (mk acc).size + 7 ≤ 9223372036854775807 := by rw [mk_size]; omega
    have z2 : (mk acc ++ mk [97, 117, 116, 104, 111, 114, 32]).size + a.size ≤ 9223372036854775807 := by
      rw [ByteArray.size_append, mk_size, mk_size]
      simp only [List.length_cons, List.length_nil]
      omega
    have z3 : (mk acc ++ mk [97, 117, 116, 104, 111, 114, 32] ++ a).size + 6 ≤ 9223372036854775807 := by
      rw [ByteArray.size_append, ByteArray.size_append, mk_size, mk_size]
      simp only [List.length_cons, List.length_nil]
      omega
    refine Ev.step (fun k => by rw [object_PutCommit.l0, if_neg (by omega), w1, w2, w3, if_pos z1, if_pos z2, if_pos z3]) ?_
    refine Ev.bind (dec_prog n hn) ?_
    simp only [ByteArray.size_append, mk_size, List.length_cons, List.length_nil]
    rw [if_pos (by omega), if_pos (by omega), if_pos (by omega)]
    have e : (mk acc ++ mk [97, 117, 116, 104, 111, 114, 32] ++ a ++ mk [10, 116, 105, 109, 101, 32] ++ mk (decL n) ++ mk [10, 10] ++ t) = mk (acc ++ endL a.toList n t.toList) := by
      apply ba_ext
      simp only [toList_append, toList_mk]
      unfold endL wAuthor wTime
      simp
    rw [e]
    exact Ev.now _
  | m + 1, i, acc, h, hacc => by
    have hlt : i < ps.length := by omega
    have w1 : (⟨#[112, 97, 114, 101, 110, 116, 32]⟩ : ByteArray) = mk [112, 97, 114, 101, 110, 116, 32] := rfl
    have w2 : (⟨#[10]⟩ : ByteArray) = mk [10] := rfl
    have hsz := hall _ (List.getElem_mem hlt)
    have hx := hexL_length ps[i].toList
    rw [toList_length] at hx
    refine Ev.step (f := fun k => object_PutCommit.l0 k (mk (acc ++ ([112, 97, 114, 101, 110, 116, 32] ++ hexL ps[i].toList ++ [10]))) ps (ps.length : Int) ((i + 1 : Nat) : Int) T ps a (n : Int) t) (fun k => ?_) ?_
    · rw [object_PutCommit.l0, if_pos (by omega), if_pos (by omega), if_pos (by omega), rd_at ps i hlt, w1, w2, hex_prog ps[i] (by omega), Option.bind_some, w64 (by omega) (by omega)]
      simp only [mk_size, mk_append, hx, if_pos (show 7 + 2 * ps[i].size ≤ 9223372036854775807 by omega), if_pos (show 7 + 2 * ps[i].size + 1 ≤ 9223372036854775807 by omega), if_pos (show acc.length + (7 + 2 * ps[i].size + 1) ≤ 9223372036854775807 by omega)]
      rfl
    · have ih := putp_l0 ps T a t n hn hp hall ha ht m (i + 1) (acc ++ ([112, 97, 114, 101, 110, 116, 32] ++ hexL ps[i].toList ++ [10])) (by omega) (by
        simp only [List.length_append, List.length_cons, List.length_nil, hx]
        omega)
      have e : acc ++ ([112, 97, 114, 101, 110, 116, 32] ++ hexL ps[i].toList ++ [10]) ++ (parsL ((ps.drop (i + 1)).map (·.toList)) ++ endL a.toList n t.toList) = acc ++ (parsL ((ps.drop i).map (·.toList)) ++ endL a.toList n t.toList) := by
        rw [List.drop_eq_getElem_cons hlt, List.map_cons, parsL]
        unfold wParent
        simp
      rw [e] at ih
      exact ih
theorem putp_prog (ps : List ByteArray) (T a t : ByteArray) (n : Nat) (hn : n < 18446744073709551616) (hp : ps.length ≤ 1000) (hT : T.size ≤ 100000) (ha : a.size ≤ 100000) (ht : t.size ≤ 100000) :
    Ev (fun k => object_PutCommit.f k T ps a (n : Int) t) (if chkC T ps a t = 0 then (mk (putC T.toList (ps.map (·.toList)) a.toList n t.toList), 0) else ((⟨#[]⟩ : ByteArray), chkC T ps a t)) := by
  have w1 : (⟨#[116, 114, 101, 101, 32]⟩ : ByteArray) = mk [116, 114, 101, 101, 32] := rfl
  have w2 : (⟨#[10]⟩ : ByteArray) = mk [10] := rfl
  have hx := hexL_length T.toList
  rw [toList_length] at hx
  unfold object_PutCommit.f
  refine Ev.bind (chkc_prog T ps a _ t (by omega) (by omega) (by omega)) ?_
  by_cases h0 : chkC T ps a t = 0
  · have hall : ∀ p ∈ ps, p.size ≤ 100000 := by
      unfold chkC at h0
      split at h0
      · exact absurd h0 (by decide)
      · split at h0
        · rename_i hc
          intro p hp2
          rw [hc.2.1 p hp2]
          omega
        · exact absurd h0 (by decide)
    simp only [if_pos h0, w1, w2, hex_prog T (show T.size ≤ 1099511627776 by omega), Option.bind_some, mk_size, mk_append, hx, if_pos (show 5 + 2 * T.size ≤ 9223372036854775807 by omega), if_pos (show 5 + 2 * T.size + 1 ≤ 9223372036854775807 by omega)]
    have := putp_l0 ps T a t n hn hp hall ha ht ps.length 0 ([116, 114, 101, 101, 32] ++ hexL T.toList ++ [10]) (by omega) (by
      simp only [List.length_append, List.length_cons, List.length_nil, hx]
      omega)
    rw [List.drop_zero] at this
    have e : [116, 114, 101, 101, 32] ++ hexL T.toList ++ [10] ++ (parsL (ps.map (·.toList)) ++ endL a.toList n t.toList) = putC T.toList (ps.map (·.toList)) a.toList n t.toList := by
      unfold putC wTree
      simp
    rw [e] at this
    exact this
  · simp only [if_neg h0]
    exact Ev.now _
theorem idV_hex (r : List UInt8) (h : r.length = 32) : idV (hexL r) = (mk r, true) := by
  unfold idV
  rw [unhex_hex]
  simp [h]
theorem parents_front (a t : List UInt8) (n : Nat) : ∀ (f : Nat) (ps : List (List UInt8)), ps.length < f → (∀ p ∈ ps, p.length = 32) → parentsL f (parsL ps ++ endL a n t) = some (ps, endL a n t)
  | 0, ps, h, _ => by omega
  | f + 1, [], h, _ => by
    have hn : lineL (endL a n t) wParent = none := by
      unfold lineL
      rw [if_neg]
      rintro ⟨_, h2⟩
      unfold endL wAuthor wParent at h2
      simp at h2
    rw [parsL, List.nil_append, parentsL, hn]
  | f + 1, p :: ps, h, hall => by
    have hp := hall p List.mem_cons_self
    have e : parsL (p :: ps) ++ endL a n t = wParent ++ 32 :: (hexL p ++ 10 :: (parsL ps ++ endL a n t)) := by
      rw [parsL]
      simp
    rw [e, parentsL, lineL_front wParent _ _ (by decide) (hexL_no10 p)]
    simp only [idV_hex p hp, if_true, toList_mk]
    rw [parents_front a t n f ps (by simp at h; omega) (fun q hq => hall q (List.mem_cons_of_mem _ hq))]
    rfl
theorem decL_no10 (n : Nat) : (10 : UInt8) ∉ decL n := fun h => by have := (decL_mem n 10 h).1; simp at this
theorem rest_front (a t : List UInt8) (n : Nat) (hn : n < 18446744073709551616) (ha : (10 : UInt8) ∉ a) : restL (endL a n t) = some (a, (n : Int), t) := by
  unfold restL endL
  rw [lineL_front wAuthor _ _ (by decide) ha, Option.bind_some]
  simp only
  rw [lineL_front wTime _ _ (by decide) (decL_no10 n), Option.bind_some]
  simp only [blankL, if_true, Option.bind_some, undecV_dec n hn]
theorem auth_no10 (a : ByteArray) (h : authV a = true) : (10 : UInt8) ∉ a.toList := by
  unfold authV at h
  split at h
  · cases h
  · cases hl : label_Name.f (mk (repL a.toList)) with
    | none =>
      rw [hl] at h
      cases h
    | some b =>
      rw [hl] at h
      have hb : b = true := h
      rw [hb] at hl
      have := name_no10 _ hl
      rw [toList_mk] at this
      intro hm
      exact this (List.mem_map.mpr ⟨10, hm, by decide⟩)
/-- A commit that may be is read again. -/
theorem commitV_put (ps : List ByteArray) (T a t : ByteArray) (n : Nat) (hn : n < 18446744073709551616) (h0 : chkC T ps a t = 0) : commitV (mk (putC T.toList (ps.map (·.toList)) a.toList n t.toList)) = (T, ps, a, (n : Int), t, 0) := by
  have hc : ps.length ≤ 4 ∧ T.size = 32 ∧ (∀ p ∈ ps, p.size = 32) ∧ authV a = true := by
    unfold chkC at h0
    split at h0
    · exact absurd h0 (by decide)
    · split at h0
      · rename_i h4 hc
        exact ⟨by omega, hc.1, hc.2.1, hc.2.2.1⟩
      · exact absurd h0 (by decide)
  obtain ⟨h4, hT, hall, hau⟩ := hc
  have hmm : (ps.map (·.toList)).map mk = ps := by
    rw [List.map_map]
    conv => rhs; rw [← List.map_id ps]
    apply List.map_congr_left
    intro x _
    exact mk_toList x
  unfold commitV
  rw [toList_mk]
  have e1 : lineL (putC T.toList (ps.map (·.toList)) a.toList n t.toList) wTree = some (hexL T.toList, parsL (ps.map (·.toList)) ++ endL a.toList n t.toList) := by
    unfold putC
    exact lineL_front wTree _ _ (by decide) (hexL_no10 _)
  rw [e1]
  simp only [idV_hex T.toList (by rw [toList_length]; exact hT), if_true, mk_toList]
  rw [parents_front a.toList t.toList n _ (ps.map (·.toList)) (by
    rw [List.length_map, mk_size]
    unfold putC wTree
    simp only [List.length_append, List.length_cons, List.length_nil]
    omega) (by
    intro q hq
    obtain ⟨p, hp, rfl⟩ := List.mem_map.mp hq
    rw [toList_length]
    exact hall p hp)]
  have er : runC T [] (some (ps.map (·.toList), endL a.toList n t.toList)) = endC T ((ps.map (·.toList)).map mk) (restL (endL a.toList n t.toList)) := rfl
  rw [er, rest_front a.toList t.toList n hn (auth_no10 a hau), hmm]
  have ee : endC T ps (some (a.toList, (n : Int), t.toList)) = finC T ps (a.toList, (n : Int), t.toList) := rfl
  rw [ee]
  unfold finC
  simp only [mk_toList, h0, if_true]
end Go.Proofs.YtnapcfpecpgdbaaDoor.Pl
