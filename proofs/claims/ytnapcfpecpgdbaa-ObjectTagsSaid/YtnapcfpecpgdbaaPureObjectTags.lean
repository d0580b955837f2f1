/- ObjectTags, the plain law. Conditions: none. -/
import Derived.Test.YtnapcfpecpgdbaaMx29
import Derived.Test.YtnapcfpecpgdbaaMx28
import Derived.Test.YtnapcfpecpgdbaaPl07u
namespace Go.Proofs.Ytnapcfpecpgdbaa.Pure
set_option linter.unusedVariables false
set_option linter.unusedSimpArgs false
open Go.RowKit Go.Proofs.Ytnapcfpecpgdbaa.M Go.Proofs.YtnapcfpecpgdbaaW.PrintWords Go.Proofs.YtnapcfpecpgdbaaW.PrintLast Go.Proofs.Ytnapcfpecpgdbaa.Pl

theorem allB_mem (s : ByteArray) (fuel : Nat) : ∀ pos : Nat, pos ≤ s.size → s.size ≤ pos + fuel → allB s fuel pos = true → ∀ j : Nat, pos ≤ j → j < s.size → okB (bt s (j : Int)) = true := by
  induction fuel with
  | zero => intro pos h1 h2 _ j h3 h4; omega
  | succ n ih =>
    intro pos h1 h2 h j h3 h4
    rw [allB_in s n pos (by omega), Bool.and_eq_true] at h
    by_cases hj : j = pos
    · rw [hj]
      exact h.1
    · exact ih (pos + 1) (by omega) (by omega) h.2 j (by omega) h4
theorem name_no10 (nm : ByteArray) (h : 0 < refK (tagsOf nm)) : (10 : UInt8) ∉ nm.toList := by
  have hd : (tagsOf nm).data.toList = [116, 97, 103, 115, 47] ++ nm.toList := by
    rw [← toList_eq]
    unfold tagsOf
    rw [toList_append]
    rw [show (⟨#[116, 97, 103, 115, 47]⟩ : ByteArray).toList = [116, 97, 103, 115, 47] from toList_lit _]
  have he : (tagsOf nm).extract 5 (tagsOf nm).size = nm := by
    apply ba_ext
    rw [toList_from, toList_eq (tagsOf nm), hd]
    rfl
  unfold refK at h
  rw [if_neg (by rw [hd]; intro h6; simp at h6), if_pos (by rw [hd]; rfl), he] at h
  have ht : label_Ref.tail nm = true := by
    by_cases hh : label_Ref.tail nm = true
    · exact hh
    · rw [if_neg hh] at h
      omega
  unfold label_Ref.tail at ht
  split at ht
  · cases ht
  · split at ht
    · cases ht
    · rw [refgo_allB nm nm.size 0 (by omega) (by omega)] at ht
      intro hm
      obtain ⟨j, hj, hje⟩ := List.getElem_of_mem hm
      have hjs : j < nm.size := by rw [← toList_length]; exact hj
      have := allB_mem nm nm.size 0 (by omega) (by omega) ht j (by omega) hjs
      rw [bt_toList nm j hjs, hje] at this
      exact absurd this (by decide)
theorem put_prog (i : ByteArray) (m : Int) (c t : ByteArray) (hi : i.size ≤ 100000000) (hc : c.size ≤ 100000000) (ht : t.size ≤ 100000000) : Ev (fun k => object_PutTag.f k i m c t) (if chkV i m c t = 0 then (mk (putL i.toList m c.toList t.toList), 0) else ((⟨#[]⟩ : ByteArray), chkV i m c t)) := by
  unfold object_PutTag.f
  refine Ev.bind (check_prog i m c t (by omega) (by omega)) ?_
  by_cases h0 : chkV i m c t = 0
  · have hm : 1 ≤ m ∧ m ≤ 4 := by
      unfold chkV at h0
      split at h0
      · omega
      · omega
    have hx := hexL_length i.toList
    rw [toList_length] at hx
    have hk := (kword_mem m hm).2.2
    have hkd : object_kinds.f = some object_Raw.words := rfl
    have hlen : object_Raw.words.length = 5 := rfl
    simp only [if_pos h0, hex_prog i (by omega), hkd, Option.bind_some, hlen, kword_rd m hm, mk_size]
    rw [if_pos (by omega), if_pos (by omega), if_pos (by omega), if_pos (by omega), if_pos (by omega), if_pos (by omega), if_pos (by omega), if_pos (by omega), if_pos (by omega)]
    have e : ((((((((⟨#[111, 98, 106, 101, 99, 116, 32]⟩ : ByteArray) ++ mk (hexL i.toList)) ++ (⟨#[10, 107, 105, 110, 100, 32]⟩ : ByteArray)) ++ mk (kword m)) ++ (⟨#[10, 110, 97, 109, 101, 32]⟩ : ByteArray)) ++ c) ++ (⟨#[10, 10]⟩ : ByteArray)) ++ t) = mk (putL i.toList m c.toList t.toList) := by
      apply ba_ext
      simp only [toList_append, toList_mk]
      rw [show (⟨#[111, 98, 106, 101, 99, 116, 32]⟩ : ByteArray).toList = [111, 98, 106, 101, 99, 116, 32] from toList_lit _, show (⟨#[10, 107, 105, 110, 100, 32]⟩ : ByteArray).toList = [10, 107, 105, 110, 100, 32] from toList_lit _, show (⟨#[10, 110, 97, 109, 101, 32]⟩ : ByteArray).toList = [10, 110, 97, 109, 101, 32] from toList_lit _, show (⟨#[10, 10]⟩ : ByteArray).toList = [10, 10] from toList_lit _]
      unfold putL wObj wKind wName
      simp
    rw [e]
    exact Ev.now _
  · simp only [if_neg h0]
    exact Ev.now _
theorem ObjectTags : ∀ (a0 : ByteArray) (a1 : Int) (a2 a3 : ByteArray), ∃ k, pollardlaw07_ObjectTags.f k a0 a1 a2 a3 = some true := by
  intro a0 a1 a2 a3
  refine Ev.rounds ?_
  have z0 := few_size a0
  have z2 := few_size a2
  have z3 := few_size a3
  unfold pollardlaw07_ObjectTags.f
  simp only [few_eq, Option.bind_some]
  generalize fewV a0 = tg at *
  generalize fewV a2 = nm at *
  generalize fewV a3 = tx at *
  refine Ev.bind (check_ref tg a1 nm tx (by omega) (by omega)) (Ev.bind (put_prog tg a1 nm tx (by omega) (by omega) (by omega)) (Ev.bind awake ?_))
  simp only [if_true]
  by_cases h0 : chkV tg a1 nm tx = 0
  · simp only [if_pos h0, h0, if_true]
    refine Ev.bind (check_prog tg a1 nm tx (by omega) (by omega)) ?_
    simp only [h0, bne_self_eq_false]
    have hh : (1 ≤ a1 ∧ a1 ≤ 4) ∧ tg.size = 32 ∧ 0 < refK (tagsOf nm) := by
      unfold chkV at h0
      split at h0
      · omega
      · split at h0
        · rename_i h1 h2
          exact ⟨by omega, h2.1, h2.2.1⟩
        · omega
    obtain ⟨hm, hs, hr⟩ := hh
    have hx := hexL_length tg.toList
    have hk := (kword_mem a1 hm).2.2
    have hsz : (mk (putL tg.toList a1 nm.toList tx.toList)).size ≤ 70368744177664 := by
      rw [mk_size]
      unfold putL wObj wKind wName
      simp only [List.length_append, List.length_cons, List.length_nil, toList_length, hx]
      omega
    have hget := get_prog (mk (putL tg.toList a1 nm.toList tx.toList)) hsz
    have hput := put_ref tg a1 nm tx hm (by omega) (by omega) (by omega)
    have htv : tagV (mk (putL tg.toList a1 nm.toList tx.toList)) = (tg, a1, nm, tx, 0) := by
      unfold tagV
      rw [toList_mk, tagL_of_put _ _ _ _ (by rw [toList_length]; exact hs) hm (name_no10 nm hr)]
      simp only [mk_toList, h0, if_true]
    rw [htv] at hget
    refine Ev.step (fun k => by rw [pollardlaw07_ObjectTags.j0]) ?_
    simp only [if_neg (show ¬ (false = true) by decide), if_true]
    refine Ev.bind hget (Ev.bind hput ?_)
    simp only [if_true, beq_self_eq_true, Bool.and_self]
    exact Ev.now _
  · simp only [if_neg h0, if_true]
    refine Ev.bind (check_prog tg a1 nm tx (by omega) (by omega)) ?_
    simp only [bne_self_eq_false]
    refine Ev.step (fun k => by rw [pollardlaw07_ObjectTags.j0]) ?_
    simp only [if_neg (show ¬ (false = true) by decide), if_neg h0]
    have e2 : (⟨#[]⟩ : ByteArray).toList = [] := toList_nil
    simp only [e2, beq_self_eq_true]
    exact Ev.now _
end Go.Proofs.Ytnapcfpecpgdbaa.Pure
