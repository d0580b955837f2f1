/- ObjectMost, the plain law. Conditions: none. -/
import Derived.Test.YtnapcfpecpgdbaaMx8
import Derived.Test.YtnapcfpecpgdbaaPl07b
import Derived.Test.YtnapcfpecpgdbaaPlBits
namespace Go.Proofs.Ytnapcfpecpgdbaa.Pure
set_option linter.unusedVariables false
set_option linter.unusedSimpArgs false
open Go.RowKit Go.Proofs.Ytnapcfpecpgdbaa.M Go.Proofs.YtnapcfpecpgdbaaW.PrintWords Go.Proofs.YtnapcfpecpgdbaaW.PrintLast Go.Proofs.Ytnapcfpecpgdbaa.Pl

theorem ObjectMost : pollardlaw07_ObjectMost.Pure := by
  intro a0 _
  refine Ev.rounds ?_
  have hb : Go.bits .and .i64 a0 3 = a0 % 4 := and_low 2 (by omega) a0
  obtain ⟨n, hn⟩ : ∃ n : Nat, wrap64 (262142 + Go.bits .and .i64 a0 3) = (n : Int) := by
    rw [hb, w64 (by omega) (by omega)]
    exact ⟨(262142 + a0 % 4).toNat, by omega⟩
  have hn1 : 262142 ≤ n ∧ n ≤ 262145 := by
    rw [hb, w64 (by omega) (by omega)] at hn
    omega
  have hz : (strOfNums (List.replicate n 0)).size = n := by rw [strOfNums_size, List.length_replicate]
  have hraw := raw_ref 1 (by omega) (strOfNums (List.replicate n 0)) (by omega)
  have hopen := open_prog (raw 1 (strOfNums (List.replicate n 0))) (by
    rw [raw, mk_size]
    simp only [List.length_append, List.length_cons, toList_length, hz]
    have h1 := (kword_mem 1 (by omega)).2.2
    have h2 := decL_short n (by omega)
    omega)
  rw [open_raw 1 (by omega) _ (by omega)] at hopen
  unfold pollardlaw07_ObjectMost.f
  simp only [hn]
  simp only [if_pos (show (0 : Int) ≤ (n : Int) by omega), Int.toNat_natCast, if_pos (show n ≤ 281474976710656 by omega), Option.bind_some]
  by_cases h : (n : Int) > 262144
  · simp only [raw_much 1 (by omega) (strOfNums (List.replicate n 0)) (by omega), Option.bind_some]
    refine Ev.bind hraw ?_
    rw [hz, if_pos h] at hopen
    refine Ev.bind hopen ?_
    simp only [if_pos h]
    refine Ev.bind awake ?_
    have e2 : (⟨#[]⟩ : ByteArray).toList = [] := toList_nil
    simp only [if_true, e2]
    exact Ev.now _
  · refine Ev.bind (raw_prog 1 (by omega) (strOfNums (List.replicate n 0)) (by omega)) ?_
    refine Ev.bind hraw ?_
    rw [hz, if_neg h] at hopen
    refine Ev.bind hopen ?_
    simp only [if_neg h]
    refine Ev.bind awake ?_
    simp only [if_true]
    refine Ev.bind hraw ?_
    simp only [beq_self_eq_true]
    exact Ev.now _
end Go.Proofs.Ytnapcfpecpgdbaa.Pure
