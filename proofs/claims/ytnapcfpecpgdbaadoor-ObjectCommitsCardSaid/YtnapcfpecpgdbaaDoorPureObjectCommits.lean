/- ObjectCommits, the plain law. Conditions: the time is such as a uint64 may be. -/
import Derived.Test.YtnapcfpecpgdbaaDoorMx34
import Derived.Test.YtnapcfpecpgdbaaDoorMx32
import Derived.Test.YtnapcfpecpgdbaaDoorPl07j
namespace Go.Proofs.YtnapcfpecpgdbaaDoor.Pure
set_option linter.unusedVariables false
set_option linter.unusedSimpArgs false
open Go.RowKit Go.Proofs.YtnapcfpecpgdbaaDoor.M Go.Proofs.YtnapcfpecpgdbaaDoorW.PrintWords Go.Proofs.YtnapcfpecpgdbaaDoorW.PrintLast Go.Proofs.YtnapcfpecpgdbaaDoor.Pl

def cutP (l : List ByteArray) : List ByteArray := if l.length > 6 then l.take 6 else l
theorem cutP_length (l : List ByteArray) : (cutP l).length ≤ 6 := by
  unfold cutP
  split
  · rw [List.length_take]
    omega
  · omega
theorem commit_eq (a0 : ByteArray) (l : List ByteArray) (a2 : ByteArray) (a3 : Int) (a4 : ByteArray) : pollardlaw07_Commit.f a0 l a2 a3 a4 = some (fewV a0, cutP l, fewV a2, a3, fewV a4, fewV a0, cutP l, fewV a2, a3, fewV a4) := by
  unfold pollardlaw07_Commit.f cutP
  by_cases h : l.length > 6
  · rw [if_pos (by omega), if_pos (by omega), if_pos h, Option.bind_some, few_eq, few_eq, few_eq]
    rfl
  · rw [if_neg (by omega), if_neg h, few_eq, few_eq, few_eq]
    rfl
theorem ObjectCommits : ∀ (a0 : ByteArray) (l : List ByteArray) (a2 : ByteArray) (a3 : Int) (a4 : ByteArray), 0 ≤ a3 → a3 < 18446744073709551616 → ∃ k, pollardlaw07_ObjectCommits.f k a0 l a2 a3 a4 = some true := by
  intro a0 l a2 a3 a4 h30 h31
  refine Ev.rounds ?_
  have z0 := few_size a0
  have z2 := few_size a2
  have z4 := few_size a4
  have zl := cutP_length l
  unfold pollardlaw07_ObjectCommits.f
  simp only [commit_eq, Option.bind_some]
  generalize fewV a0 = T at *
  generalize fewV a2 = a at *
  generalize fewV a4 = t at *
  generalize cutP l = ps at *
  obtain ⟨n, rfl⟩ : ∃ n : Nat, a3 = (n : Int) := ⟨a3.toNat, by omega⟩
  have hn : n < 18446744073709551616 := by omega
  refine Ev.bind (chkc_ref T ps a (n : Int) t (by omega) (by omega) (by omega)) (Ev.bind (putp_prog ps T a t n hn (by omega) (by omega) (by omega) (by omega)) (Ev.bind awake ?_))
  simp only [if_true]
  by_cases h0 : chkC T ps a t = 0
  · simp only [if_pos h0, h0, if_true]
    refine Ev.bind (chkc_prog T ps a (n : Int) t (by omega) (by omega) (by omega)) ?_
    simp only [h0, bne_self_eq_false]
    have hc : ps.length ≤ 4 ∧ T.size = 32 ∧ (∀ p ∈ ps, p.size = 32) ∧ textV t = true := by
      unfold chkC at h0
      split at h0
      · exact absurd h0 (by decide)
      · split at h0
        · rename_i h4 hc
          exact ⟨by omega, hc.1, hc.2.1, hc.2.2.2.1⟩
        · exact absurd h0 (by decide)
    obtain ⟨h4, hT, hall, htx⟩ := hc
    have ht4 : t.size ≤ 4096 := by
      unfold textV at htx
      rw [Bool.and_eq_true, decide_eq_true_eq] at htx
      omega
    have hpl : ∀ l : List ByteArray, (∀ p ∈ l, p.size = 32) → (parsL (l.map (·.toList))).length ≤ 72 * l.length := by
      intro l
      induction l with
      | nil => intro _; exact Nat.le_refl _
      | cons p l ih =>
        intro hh
        have h1 := ih (fun q hq => hh q (List.mem_cons_of_mem _ hq))
        have h2 := hh p List.mem_cons_self
        have h3 := hexL_length p.toList
        rw [toList_length] at h3
        rw [List.map_cons, parsL]
        simp only [List.length_append, List.length_cons, wParent, List.length_nil]
        omega
    have hsz : (mk (putC T.toList (ps.map (·.toList)) a.toList n t.toList)).size ≤ 9990 := by
      have h1 := hpl ps hall
      have h2 := hexL_length T.toList
      have h3 := decL_short n hn
      rw [toList_length] at h2
      rw [mk_size]
      unfold putC endL wTree wAuthor wTime
      simp only [List.length_append, List.length_cons, List.length_nil, toList_length]
      omega
    have hget := getc_prog _ hsz
    rw [commitV_put ps T a t n hn h0] at hget
    have hput := putc_ref ps T a t n hn (by omega) (fun p hp => by rw [hall p hp]; omega) (by omega) (by omega) (by omega)
    refine Ev.step (fun k => by rw [pollardlaw07_ObjectCommits.j0]) ?_
    simp only [if_neg (show ¬ (false = true) by decide), if_true]
    refine Ev.bind hget (Ev.bind hput ?_)
    simp only [if_true]
    exact Ev.bind (same_ev ps (by omega) T a t (n : Int)) (Ev.now _)
  · simp only [if_neg h0, if_true]
    refine Ev.bind (chkc_prog T ps a (n : Int) t (by omega) (by omega) (by omega)) ?_
    simp only [bne_self_eq_false]
    refine Ev.step (fun k => by rw [pollardlaw07_ObjectCommits.j0]) ?_
    simp only [if_neg (show ¬ (false = true) by decide), if_neg h0]
    have e2 : (⟨#[]⟩ : ByteArray).toList = [] := toList_nil
    simp only [e2, beq_self_eq_true]
    exact Ev.now _
end Go.Proofs.YtnapcfpecpgdbaaDoor.Pure
