/- What the bound on all that comes in gives for a row of texts: the sum of their sizes. -/
import Derived.Test.YtflogdjehghkpaaDoorPlOpen
import Derived.Test.YtflogdjehghkpaaDoorRows
namespace Go.Proofs.YtflogdjehghkpaaDoor.Pl
set_option linter.unusedVariables false
open Go Go.RowKit Go.ChangeShapes Go.Proofs.YtflogdjehghkpaaDoorW.PrintWords Go.Proofs.YtflogdjehghkpaaDoorW.PrintLast

theorem bulk_sum {H : Type} : ∀ (ds : List (DataW H)) (xs : List ByteArray), xs.length ≤ ds.length → (∀ (i : Nat) (x : ByteArray) (d : DataW H), xs[i]? = some x → ds[i]? = some d → x.size ≤ Rows.uptoBulk d) → (xs.map (·.size)).sum ≤ Rows.uptoBulkAll ds
  | ds, [], _, _ => Nat.zero_le _
  | [], x :: xs, h, _ => by simp at h
  | d :: ds, x :: xs, hl, h => by
    have h1 := h 0 x d rfl rfl
    have h2 := bulk_sum ds xs (by simpa using hl) (fun i y e hy he => h (i + 1) y e (by simpa using hy) (by simpa using he))
    rw [List.map_cons, List.sum_cons, Rows.uptoBulkAll]
    omega
theorem bulk_row {P : Program} {w : World} {t e : TypeId} {H : Type} {enc : TypeId × Value → H} {base : Nat} {spare : Nat → Bool} {held : Bool} {y : DataW H} {p : List MemPlace} {A : Option Addr} {cap : Nat} {xs : List ByteArray}
    (ht : P.underlying t = some (.slice e)) (he : P.underlying e = some .string) (hc : P.cellsOf e = 1) (hT : DataW.Trod enc P w base spare held t (.slice A xs.length cap) y p) (hC : Kd.C Kd.string w A xs.length xs) :
    (xs.map (·.size)).sum ≤ Rows.uptoBulk y := by
  obtain ⟨n, hn⟩ := hT
  rcases DataW.trod_slice ht hn with ⟨h1, h2⟩ | ⟨a, len, cp, elems, rest, m, _, h1, h2, _, hl, hm, hlen, hel, _⟩
  · have h3 : xs.length = 0 := by
      have h4 : ([Value.slice A xs.length cap] : List Value) = [.slice none 0 0] := by simpa [Value.cells] using h1
      injection List.singleton_inj.mp h4
    rw [List.eq_nil_of_length_eq_zero h3]
    exact Nat.zero_le _
  · have h4 : ([Value.slice A xs.length cap] : List Value) = [.slice (some a) len cp] := by simpa [Value.cells] using h1
    injection List.singleton_inj.mp h4 with e1 e2 e3
    subst e1 e2 e3
    have hy : y = DataW.slice (elems.map (·.1)) (rest.map (·.1)) := congrArg Prod.fst h2
    rw [hy, Rows.uptoBulk]
    refine Nat.le_trans (bulk_sum (elems.map (·.1)) xs (by rw [List.length_map]; omega) (fun i x d hx hd => ?_)) (by omega)
    have hi : i < xs.length := (List.getElem?_eq_some_iff.mp hx).1
    have h5 := hel i hi
    rw [List.getElem?_map, Option.map_eq_some_iff] at hd
    obtain ⟨z, hz, rfl⟩ := hd
    rw [hz, Option.bind_eq_some_iff] at h5
    obtain ⟨c, hcs, htr⟩ := h5
    obtain ⟨s, rfl, rfl, _⟩ := DataW.trod_string he htr
    obtain ⟨ad, c', ea, _, hK, hcc⟩ := Kd.C_get hC ByteArray.empty (i : Int) (Int.natCast_nonneg i) (Int.ofNat_lt.mpr hi)
    rw [Int.toNat_natCast] at hK hcc
    have e0 : xs.getD i ByteArray.empty = x := by simp [List.getD, hx]
    rw [e0] at hK
    obtain rfl : c' = [.string x] := hK
    obtain rfl := Option.some.inj ea
    obtain ⟨_, hcl, hat⟩ := World.cells?_some hcs
    have h6 := hat 0 (by rw [hc]; exact Nat.one_pos)
    have h7 := hcc 0 _ rfl
    have h8 : w.cell? ((a.add (i * P.cellsOf e)).add 0) = some (.string x) := by
      rw [hc, Go.Deep.add_add]
      exact h7
    rw [h8] at h6
    have h9 : s = x := by
      have := h6.symm
      simpa [Value.cells] using this
    subst h9
    rw [Rows.uptoBulk, Array.length_toList]
    exact Nat.le_succ _
end Go.Proofs.YtflogdjehghkpaaDoor.Pl
