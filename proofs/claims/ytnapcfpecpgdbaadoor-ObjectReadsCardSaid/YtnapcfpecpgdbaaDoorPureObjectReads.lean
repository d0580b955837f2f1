/- ObjectReads, the plain law. Conditions: none. -/
import Derived.Test.YtnapcfpecpgdbaaDoorMx31
import Derived.Test.YtnapcfpecpgdbaaDoorPl07i
namespace Go.Proofs.YtnapcfpecpgdbaaDoor.Pure
set_option linter.unusedVariables false
set_option linter.unusedSimpArgs false
open Go.RowKit Go.Proofs.YtnapcfpecpgdbaaDoor.M Go.Proofs.YtnapcfpecpgdbaaDoorW.PrintWords Go.Proofs.YtnapcfpecpgdbaaDoorW.PrintLast Go.Proofs.YtnapcfpecpgdbaaDoor.Pl

theorem map_mk (l : List (List UInt8)) : (l.map mk).map (·.toList) = l := by
  rw [List.map_map]
  conv => rhs; rw [← List.map_id l]
  apply List.map_congr_left
  intro x _
  exact toList_mk x
/-- Whatever a text is read as: it has few parents; where it is a commit, that has just these bytes. -/
theorem commitV_ok (s : ByteArray) (hs : s.size ≤ 5000) : (commitV s).2.1.length ≤ 1000 ∧ ((commitV s).2.2.2.2.2 = 0 → mk (putC (commitV s).1.toList ((commitV s).2.1.map (·.toList)) (commitV s).2.2.1.toList (commitV s).2.2.2.1.toNat (commitV s).2.2.2.2.1.toList) = s ∧ 0 ≤ (commitV s).2.2.2.1 ∧ (commitV s).2.2.2.1 < 18446744073709551616 ∧ (commitV s).1.size ≤ 100000 ∧ (∀ p ∈ (commitV s).2.1, p.size ≤ 100000) ∧ (commitV s).2.2.1.size ≤ 100000 ∧ (commitV s).2.2.2.2.1.size ≤ 100000) := by
  have hb : ∀ e : Int, e ≠ 0 → ((badC e).2.1.length ≤ 1000 ∧ ((badC e).2.2.2.2.2 = 0 → mk (putC (badC e).1.toList ((badC e).2.1.map (·.toList)) (badC e).2.2.1.toList (badC e).2.2.2.1.toNat (badC e).2.2.2.2.1.toList) = s ∧ 0 ≤ (badC e).2.2.2.1 ∧ (badC e).2.2.2.1 < 18446744073709551616 ∧ (badC e).1.size ≤ 100000 ∧ (∀ p ∈ (badC e).2.1, p.size ≤ 100000) ∧ (badC e).2.2.1.size ≤ 100000 ∧ (badC e).2.2.2.2.1.size ≤ 100000)) := fun e he => ⟨Nat.zero_le _, fun h => absurd (show e = 0 from h) he⟩
  have hsl := toList_length s
  unfold commitV
  cases e1 : lineL s.toList wTree with
  | none => exact hb 6 (by decide)
  | some x =>
    simp only
    by_cases h5 : (idV x.1).2 = true
    · rw [if_pos h5]
      cases e2 : parentsL (s.size + 1) x.2 with
      | none => exact hb 6 (by decide)
      | some p =>
        have er : runC (idV x.1).1 [] (some p) = endC (idV x.1).1 (p.1.map mk) (restL p.2) := rfl
        rw [er]
        cases e3 : restL p.2 with
        | none => exact hb 6 (by decide)
        | some q =>
          have eq : endC (idV x.1).1 (p.1.map mk) (some q) = finC (idV x.1).1 (p.1.map mk) q := rfl
          rw [eq]
          unfold finC
          by_cases h7 : chkC (idV x.1).1 (p.1.map mk) (mk q.1) (mk q.2.2) = 0
          · rw [if_pos h7]
            obtain ⟨r, hr, hr2, hr3⟩ := idV_true h5
            have b1 := (lineL_back (t := x.1) (r := x.2) e1).1
            have sx := lineL_short (t := x.1) (r := x.2) e1
            obtain ⟨b2, b2l⟩ := parents_back _ _ _ e2
            obtain ⟨b3, n0, n1⟩ := rest_back (a := q.1) (n := q.2.1) (t := q.2.2) e3
            have sq := restL_short e3
            have hp2 : p.2.length ≤ x.2.length := by
              have := congrArg List.length b2
              rw [List.length_append] at this
              omega
            have hpl : p.1.length ≤ 1000 := by omega
            have hx1 : hexL r = x.1 := hex_unhex x.1 r hr
            refine ⟨by rw [List.length_map]; exact hpl, fun _ => ⟨?_, n0, n1, ?_, ?_, ?_, ?_⟩⟩
            · simp only [toList_mk, map_mk, hr3]
              apply ba_ext
              rw [toList_mk, b1]
              unfold putC
              rw [hx1, ← b3, ← b2]
            · rw [hr3, mk_size]
              omega
            · have hall : ∀ p' ∈ p.1.map mk, p'.size = 32 := by
                unfold chkC at h7
                split at h7
                · exact absurd h7 (by decide)
                · split at h7
                  · rename_i hc
                    exact hc.2.1
                  · exact absurd h7 (by decide)
              intro p' hp'
              rw [hall p' hp']
              omega
            · rw [mk_size]
              omega
            · rw [mk_size]
              omega
          · rw [if_neg h7]
            exact hb _ h7
    · rw [if_neg h5]
      exact hb 6 (by decide)
theorem ObjectReads : pollardlaw07_ObjectReads.Pure := by
  intro a0 _
  refine Ev.rounds ?_
  have hz := few_size a0
  unfold pollardlaw07_ObjectReads.f
  simp only [few_eq, Option.bind_some]
  generalize fewV a0 = s at *
  obtain ⟨hl, hok⟩ := commitV_ok s hz
  have hg := getc_prog s (by omega)
  have hg2 := getc_ref s (by omega)
  generalize commitV s = C at *
  refine Ev.bind hg (Ev.bind hg2 (Ev.bind awake ?_))
  simp only [if_true]
  refine Ev.bind (same_ev C.2.1 (by omega) C.1 C.2.2.1 C.2.2.2.2.1 C.2.2.2.1) ?_
  simp only [if_true]
  by_cases h0 : C.2.2.2.2.2 = 0
  · simp only [if_pos h0]
    obtain ⟨h1, n0, n1, z1, z2, z3, z4⟩ := hok h0
    have hput := putc_ref C.2.1 C.1 C.2.2.1 C.2.2.2.2.1 C.2.2.2.1.toNat (by omega) hl z2 z1 z3 z4
    rw [Int.toNat_of_nonneg n0, h1] at hput
    refine Ev.bind hput ?_
    simp only [beq_self_eq_true]
    exact Ev.now _
  · simp only [if_neg h0]
    exact Ev.now _
end Go.Proofs.YtnapcfpecpgdbaaDoor.Pure
