import Derived.Test.YtflogdjehghkpaaDoorMx5
import Derived.Test.YtflogdjehghkpaaDoorPl18
namespace Go.Proofs.YtflogdjehghkpaaDoor.Pure
set_option linter.unusedVariables false
open Go.RowKit Go.Proofs.YtflogdjehghkpaaDoor.M Go.Proofs.YtflogdjehghkpaaDoorW.PrintWords Go.Proofs.YtflogdjehghkpaaDoorW.PrintLast Go.Proofs.YtflogdjehghkpaaDoor.Pl

theorem awake18 : Ev (fun k => pollardlaw18_awake.f k) true := Ev.of (fun k => pollardlaw18_awake.mono k) (k := 60) (by decide +kernel)

theorem lines_l0 (s : ByteArray) (l : List ByteArray) (hl : l.length ≤ 2000000) (hs : s.size ≤ 1000000) (h : (l.map (·.toList)).flatten = s.toList) : ∀ (n i : Nat) (t : ByteArray), l.length - i = n → i ≤ l.length → t.toList = ((l.take i).map (·.toList)).flatten → Ev (fun k => pollardlaw18_DiffLines.l0 k s l l t (i : Int)) true := by
  have hls := toList_length s
  intro n
  induction n with
  | zero =>
    intro i t hn hi ht
    obtain rfl : i = l.length := by omega
    rw [List.take_length, h] at ht
    refine Ev.step (f := fun _ => some true) (fun k => ?_) (Ev.now _)
    simp only [pollardlaw18_DiffLines.l0]
    rw [if_neg (by omega), ht, beq_self_eq_true]
  | succ n ih =>
    intro i t hn hi ht
    have hlt : i < l.length := by omega
    have hr : rdOf ByteArray.empty l (i : Int) = l[i]'hlt := by
      unfold rdOf
      rw [Int.toNat_natCast, List.getD, List.getElem?_eq_getElem hlt]
      rfl
    have hnew : (t ++ l[i]'hlt).toList = ((l.take (i + 1)).map (·.toList)).flatten := by
      rw [toList_append, ht, List.take_add_one, List.getElem?_eq_getElem hlt, List.map_append, List.flatten_append]
      simp only [Option.toList_some, List.map_cons, List.map_nil, List.flatten_cons, List.flatten_nil, List.append_nil]
    have hsz : (t ++ l[i]'hlt).size ≤ s.size := by
      rw [← toList_length, ← hls, hnew, ← h]
      conv => rhs; rw [← List.take_append_drop (i + 1) l]
      rw [List.map_append, List.flatten_append, List.length_append]
      omega
    rw [ByteArray.size_append] at hsz
    refine Ev.step (f := fun k => pollardlaw18_DiffLines.l0 k s l l (t ++ l[i]'hlt) ((i + 1 : Nat) : Int)) (fun k => ?_) (ih (i + 1) _ (by omega) (by omega) hnew)
    simp only [pollardlaw18_DiffLines.l0]
    rw [if_pos (by omega), if_pos (by omega), if_pos (by omega), if_pos (by trivial), hr, if_pos (by omega)]
    rw [(w64 (by omega) (by omega)).trans (show (i : Int) + 1 = ((i + 1 : Nat) : Int) by omega)]

theorem lines_f (s : ByteArray) (hs : s.size ≤ 500) : Ev (fun k => pollardlaw18_DiffLines.j0 k s) true := by
  have hlen := lns_length 10 s.toList []
  rw [toList_length] at hlen
  have hf : (((lns 10 [] s.toList).map mk).map (·.toList)).flatten = s.toList := by
    rw [List.map_map, show ((·.toList) ∘ mk : List UInt8 → List UInt8) = id from funext toList_mk, List.map_id]
    exact lns_flat 10 s.toList []
  generalize hL : (lns 10 [] s.toList).map mk = L at hf
  have hLl : L.length ≤ 501 := by rw [← hL, List.length_map]; omega
  refine Ev.step (f := fun k => (diff_Lines.f s).bind fun t148 => ((pollardref18_Lines.f k s).bind fun t151 => ((pollardlaw18_awake.f k).bind fun t154 => (if t154 = true then (pollardlaw18_DiffLines.j1 k s t148 t151 (⟨#[]⟩ : ByteArray) ((t148.length : Int) != (t151.length : Int))) else (pollardlaw18_DiffLines.j1 k s t148 t151 (⟨#[]⟩ : ByteArray) true))))) (fun k => by simp only [pollardlaw18_DiffLines.j0]) ?_
  rw [prog_lines s (by omega), hL]
  refine Ev.congr (fun k => Option.bind_some _ _) ?_
  refine Ev.bind (hL ▸ ref_lines_f s (by omega)) ?_
  refine Ev.bind awake18 ?_
  refine Ev.congr (f := fun k => pollardlaw18_DiffLines.j1 k s L L (⟨#[]⟩ : ByteArray) false) (fun k => ?_) ?_
  · rw [if_pos rfl, bne_self_eq_false]
  refine Ev.step (f := fun k => pollardlaw18_DiffLines.l0 k s L L (⟨#[]⟩ : ByteArray) ((0 : Nat) : Int)) (fun k => ?_) (lines_l0 s L (by omega) (by omega) hf L.length 0 _ (by omega) (by omega) (by rw [toList_nil]; rfl))
  simp only [pollardlaw18_DiffLines.j1]
  rw [if_neg (by simp)]
  rfl

theorem DiffLines : pollardlaw18_DiffLines.Pure := by
  intro s hs
  refine Ev.rounds (g := fun k => pollardlaw18_DiffLines.f k s) ?_
  unfold pollardlaw18_DiffLines.f
  by_cases h : (s.size : Int) > 500
  · refine Ev.congr (f := fun k => pollardlaw18_DiffLines.j0 k (s.extract 0 500)) (fun k => ?_) (lines_f _ (by rw [ByteArray.size_extract]; omega))
    rw [if_pos h, if_pos (by omega), if_pos (by omega)]
  · exact Ev.congr (fun k => if_neg h) (lines_f s (by omega))
end Go.Proofs.YtflogdjehghkpaaDoor.Pure
