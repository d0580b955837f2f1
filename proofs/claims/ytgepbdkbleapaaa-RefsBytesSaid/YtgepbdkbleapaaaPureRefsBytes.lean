/- Which refs may be, or why not; those that may have the document's bytes, and are read again; each is found by its name. Conditions: none. -/
import Derived.Test.YtgepbdkbleapaaaMx17
import Derived.Test.YtgepbdkbleapaaaPl13g
import Derived.Test.YtgepbdkbleapaaaPl13e
namespace Go.Proofs.Ytgepbdkbleapaaa.Pure
set_option linter.unusedVariables false
open Go.RowKit Go.Proofs.Ytgepbdkbleapaaa.M Go.Proofs.YtgepbdkbleapaaaW.PrintWords Go.Proofs.YtgepbdkbleapaaaW.PrintLast Go.Proofs.Ytgepbdkbleapaaa.Pl

theorem RefsBytes (a0 : ByteArray) (l1 : List Rf) (a1 : ByteArray) (h0 : a0.size ≤ 140737488351232) (h1 : ∀ x ∈ l1, x.f0.size ≤ 140737488351232 ∧ x.f1.size ≤ 140737488351232) (_ : a1.size ≤ 140737488351232) : ∃ k, pollardlaw13_RefsBytes.f k a0 l1 a1 = some true := by
  obtain ⟨M, hcut, hM, hsub⟩ := cut_prog a0 l1
  have hs : ∀ x ∈ M, x.f0.size ≤ 140737488351232 := fun x hx => (h1 x (hsub x hx)).1
  have g1 := ref_f a0 M (by omega)
  have g2 := chk_ref a0 M h0 hs
  have g4 := chk_prog a0 M
  refine Ev.rounds (g := fun k => pollardlaw13_RefsBytes.f k a0 l1 a1) ?_
  unfold pollardlaw13_RefsBytes.f
  rw [hcut]
  refine Ev.congr (fun k => Option.bind_some _ _) ?_
  refine Ev.bind g1 ?_
  refine Ev.bind g2 ?_
  by_cases hc : chk a0 M = 0
  · rw [hc] at g4 ⊢
    have hc2 := hc
    unfold chk at hc2
    by_cases c1 : (M.length : Int) > 256
    · rw [if_pos c1] at hc2; exact absurd hc2 (by decide)
    · rw [if_neg c1] at hc2
      by_cases c2 : refK a0 = 1
      · rw [if_pos c2] at hc2
        obtain ⟨s1, _, s3⟩ := chk_srt M none hc2
        have hh : 0 < refK a0 := by omega
        have f1 := (refK_fine a0 hh).1
        have f2 : ∀ x ∈ M, x.f0.size ≤ 70 ∧ x.f1.size = 32 := fun x hx => ⟨(refK_fine _ (s3 x hx).1).1, (s3 x hx).2⟩
        have e1 := enc_prog a0 f1 M (by omega) f2 hc
        have e2 := enc_ref a0 f1 M (by omega) f2
        have e3 := dec_prog a0 M (by omega) hh s3 hc
        have e4 := same_f a0 M (by omega)
        have e5 := get_prog a0 a1 M (by omega) s1
        have e6 := get_ref a0 a1 M (by omega)
        rw [getS_getL a1 M s1] at e5
        refine Ev.bind e1 ?_
        refine Ev.bind awake13 ?_
        refine Ev.congr (fun k => if_pos rfl) ?_
        refine Ev.congr (fun k => if_pos rfl) ?_
        refine Ev.bind g4 ?_
        dsimp only
        refine Ev.step (f := fun k => (refs_Decode.f k (mk (enc a0 M))).bind fun bt240 => ((pollardref13_Encode.f k a0 (M.map toR)).bind fun t246 => (if (mk (enc a0 M)).toList = t246.toList then (if bt240.2.2 = 0 then ((pollardlaw13_Same.f k bt240.1 bt240.2.1 a0 (M.map toR)).bind fun t247 => (if t247 = true then ((refs_Get.f k a0 M a1).bind fun t248 => ((pollardref13_Get.f k a0 (M.map toR) a1).bind fun t249 => (some (t248.toList == t249.toList)))) else (none))) else (none)) else (none)))) (fun k => ?_) ?_
        · simp only [pollardlaw13_RefsBytes.j0]
          rw [if_neg (by simp), if_pos (by trivial)]
        · refine Ev.bind e3 ?_
          refine Ev.bind e2 ?_
          refine Ev.congr (fun k => if_pos rfl) ?_
          refine Ev.congr (fun k => if_pos rfl) ?_
          refine Ev.bind e4 ?_
          refine Ev.congr (fun k => if_pos rfl) ?_
          refine Ev.bind e5 ?_
          refine Ev.bind e6 ?_
          rw [beq_self_eq_true]
          exact Ev.now _
      · rw [if_neg c2] at hc2; exact absurd hc2 (by decide)
  · refine Ev.bind (enc_bad a0 M hc) ?_
    refine Ev.bind awake13 ?_
    refine Ev.congr (fun k => if_pos rfl) ?_
    refine Ev.congr (fun k => if_pos rfl) ?_
    refine Ev.bind g4 ?_
    dsimp only
    refine Ev.step (f := fun k => some true) (fun k => ?_) (Ev.now _)
    simp only [pollardlaw13_RefsBytes.j0]
    rw [if_neg (by simp), if_neg hc, toList_nil]
    rfl
end Go.Proofs.Ytgepbdkbleapaaa.Pure
