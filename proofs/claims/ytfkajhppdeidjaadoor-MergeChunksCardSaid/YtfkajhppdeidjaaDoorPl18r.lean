/- The document's walk for the lines in common comes to the plain one. -/
import Derived.Test.YtfkajhppdeidjaaDoorPl18c
import Derived.Test.YtfkajhppdeidjaaDoorMx7
import Derived.Test.YtfkajhppdeidjaaDoorMx8
import Derived.Test.YtfkajhppdeidjaaDoorMx6
namespace Go.Proofs.YtfkajhppdeidjaaDoor.Pl
set_option linter.unusedVariables false
set_option linter.unusedSimpArgs false
open Go.RowKit Go.Proofs.YtfkajhppdeidjaaDoor.M Go.Proofs.YtfkajhppdeidjaaDoorW.PrintWords Go.Proofs.YtfkajhppdeidjaaDoorW.PrintLast

section
variable {a b : List ByteArray} (hM : (a.length + 1) * (b.length + 1) ≤ 1000000) (ha : a.length ≤ 1000000) (hb : b.length ≤ 1000000)
include hM ha hb
omit ha hb in
theorem at_f {t : List Int} {n p q : Nat} (ht : Tab a b t n) (hp : p ≤ a.length) (hq : q ≤ b.length) (hn : n ≤ p * (b.length + 1) + q ∨ p = a.length ∨ q = b.length) : pollardref18_Table_At.f ((b.length + 1 : Nat) : Int) t (p : Int) (q : Int) = some (cm a b p q) := by
  obtain ⟨r1, r2, r3⟩ := ht.at hp hq hn _ rfl
  unfold pollardref18_Table_At.f
  rw [ix hM hp hq, if_pos r1, if_pos r2, r3]

theorem ref_table : ∀ (n : Nat) (t : List Int), n ≤ (a.length + 1) * (b.length + 1) → Tab a b t n → ∃ t', Tab a b t' 0 ∧ Ev (fun k => pollardref18_Common.l0 k a b ((n : Int) - 1) ((b.length + 1 : Nat) : Int) t) (((b.length + 1 : Nat) : Int), t') := by
  intro n
  induction n with
  | zero =>
    intro t _ ht
    refine ⟨t, ht, Ev.step (f := fun _ => some (((b.length + 1 : Nat) : Int), t)) (fun k => ?_) (Ev.now _)⟩
    simp only [pollardref18_Common.l0]
    rw [if_neg (by omega)]
  | succ n ih =>
    intro t hn ht
    have hx : ((n + 1 : Nat) : Int) - 1 = (n : Int) := by omega
    rw [hx]
    obtain ⟨p, hp⟩ : ∃ p, n / (b.length + 1) = p := ⟨_, rfl⟩
    obtain ⟨q, hq⟩ : ∃ q, n % (b.length + 1) = q := ⟨_, rfl⟩
    have hnp : n = p * (b.length + 1) + q := by
      have := Nat.div_add_mod n (b.length + 1)
      rw [hp, hq, Nat.mul_comm] at this
      exact this.symm
    have hq2 : q < b.length + 1 := by rw [← hq]; exact Nat.mod_lt _ (by omega)
    have hp2 : p ≤ a.length := by
      have h1 : n / (b.length + 1) < a.length + 1 := Nat.div_lt_of_lt_mul (by rw [Nat.mul_comm]; exact hn)
      rw [hp] at h1
      exact Nat.le_of_lt_succ h1
    have hd : wrap64 (Int.tdiv (n : Int) ((b.length + 1 : Nat) : Int)) = (p : Int) := by
      rw [Int.tdiv_eq_ediv_of_nonneg (by omega), ← Int.natCast_ediv, hp]
      exact w64n (by omega)
    have hr : Int.tmod (n : Int) ((b.length + 1 : Nat) : Int) = (q : Int) := by
      rw [Int.tmod_eq_emod_of_nonneg (by omega), ← Int.natCast_emod, hq]
    have hj2 := w64p (n := n) (by omega)
    have hWne : ¬ ((b.length + 1 : Nat) : Int) = 0 := by omega
    have hnM : (n : Int) < (((a.length + 1) * (b.length + 1) : Nat) : Int) := nl hn
    by_cases h : p = a.length ∨ q = b.length
    · obtain ⟨t', h1, h2⟩ := ih t (by omega) (Tab.skip ht (fun p' q' hp' hq' e => by
        have := place_inj (m := b.length + 1) (by omega) hq2 (e.trans hnp)
        omega))
      refine ⟨t', h1, Ev.step (f := fun k => pollardref18_Common.j1 k a b (n : Int) (p : Int) (q : Int) true ((b.length + 1 : Nat) : Int) t) (fun k => ?_) (Ev.step (f := fun k => pollardref18_Common.l0 k a b ((n : Int) - 1) ((b.length + 1 : Nat) : Int) t) (fun k => ?_) h2)⟩
      · simp only [pollardref18_Common.l0]
        rw [if_pos (nn n), if_neg hWne, hd, hr]
        by_cases hp3 : (p : Int) = (a.length : Int)
        · rw [if_pos hp3]
        · rw [if_neg hp3, show ((q : Int) == (b.length : Int)) = true from beq_iff_eq.mpr (by omega)]
      · simp only [pollardref18_Common.j1]
        rw [if_pos (by trivial), hj2]
    · have hp3 : p < a.length := by omega
      have hq3 : q < b.length := by omega
      have hpn : ¬ (p : Int) = (a.length : Int) := fun e => Nat.ne_of_lt hp3 (Int.ofNat.inj e)
      have hqn : ((q : Int) == (b.length : Int)) = false := beq_eq_false_iff_ne.mpr (fun e => Nat.ne_of_lt hq3 (Int.ofNat.inj e))
      have hup := next_row p (b.length + 1)
      have g1 : n + 1 ≤ (p + 1) * (b.length + 1) + q := by omega
      have g2 : n + 1 ≤ p * (b.length + 1) + (q + 1) := by omega
      have g3 : n + 1 ≤ (p + 1) * (b.length + 1) + (q + 1) := by omega
      have hw := w64s (n := p) (by omega)
      have hv := w64s (n := q) (by omega)
      have A1 := at_f hM ht (p := p + 1) (q := q) hp3 (Nat.le_of_lt hq3) (.inl g1)
      have A2 := at_f hM ht (p := p) (q := q + 1) (Nat.le_of_lt hp3) hq3 (.inl g2)
      have A3 := at_f hM ht (p := p + 1) (q := q + 1) hp3 hq3 (.inl g3)
      have c3 := w64v (cm_range (a := a) (b := b) (p + 1) (q + 1)) (by omega)
      have hlen := ht.1
      rw [← hlen] at hnM
      clear hlen hup g1 g2 g3
      have hnl : n ≤ (a.length + 1) * (b.length + 1) := Nat.le_of_lt hn
      rw [hnp] at ht
      have hput : ∀ v, v = cm a b p q → ∃ t', Tab a b t' 0 ∧ Ev (fun k => pollardref18_Common.l0 k a b ((n : Int) - 1) ((b.length + 1 : Nat) : Int) (t.set n v)) (((b.length + 1 : Nat) : Int), t') := fun v hv => by
        have h1 := ht.put hp3 hq3 hv
        rw [← hnp] at h1
        exact ih _ hnl h1
      have hj2f : ∀ m : Int, m = max (cm a b (p + 1) q) (cm a b p (q + 1)) → ∃ t', Tab a b t' 0 ∧ Ev (fun k => pollardref18_Common.j2 k a b (n : Int) (p : Int) (q : Int) m ((b.length + 1 : Nat) : Int) t) (((b.length + 1 : Nat) : Int), t') := by
        intro m hm
        have b1 := cm_at2 (a := a) (b := b) (i := p + 1) hq3
        have b2 := cm_at1 (a := a) (b := b) (j := q + 1) hp3
        by_cases hc : (a[p]'hp3).toList = (b[q]'hq3).toList
        · have hs := cm_same hp3 hq3 hc
          by_cases hg : cm a b (p + 1) (q + 1) + 1 > m
          · obtain ⟨t', h1, h2⟩ := hput _ hs.symm
            refine ⟨t', h1, Ev.step (f := fun k => pollardref18_Common.l0 k a b ((n : Int) - 1) ((b.length + 1 : Nat) : Int) (t.set n (cm a b (p + 1) (q + 1) + 1))) (fun k => ?_) h2⟩
            simp only [pollardref18_Common.j2]
            rw [if_pos (nn p), if_pos (nl hp3), if_pos (nn q), if_pos (nl hq3), rdOf_at a p hp3, rdOf_at b q hq3, if_pos hc, hw, hv, A3, Option.bind_some, c3, if_pos hg, Option.bind_some, c3, if_pos (nn n), if_pos hnM, Int.toNat_natCast, hj2]
          · obtain ⟨t', h1, h2⟩ := hput m (best_same hm b1 b2 hs hg)
            refine ⟨t', h1, Ev.step (f := fun k => pollardref18_Common.l0 k a b ((n : Int) - 1) ((b.length + 1 : Nat) : Int) (t.set n m)) (fun k => ?_) h2⟩
            simp only [pollardref18_Common.j2]
            rw [if_pos (nn p), if_pos (nl hp3), if_pos (nn q), if_pos (nl hq3), rdOf_at a p hp3, rdOf_at b q hq3, if_pos hc, hw, hv, A3, Option.bind_some, c3, if_neg hg, if_pos (nn n), if_pos hnM, Int.toNat_natCast, hj2]
        · obtain ⟨t', h1, h2⟩ := hput m (hm.trans (cm_else hp3 hq3 hc).symm)
          refine ⟨t', h1, Ev.step (f := fun k => pollardref18_Common.l0 k a b ((n : Int) - 1) ((b.length + 1 : Nat) : Int) (t.set n m)) (fun k => ?_) h2⟩
          simp only [pollardref18_Common.j2]
          rw [if_pos (nn p), if_pos (nl hp3), if_pos (nn q), if_pos (nl hq3), rdOf_at a p hp3, rdOf_at b q hq3, if_neg hc, if_pos (nn n), if_pos hnM, Int.toNat_natCast, hj2]
      by_cases hg : cm a b p (q + 1) > cm a b (p + 1) q
      · obtain ⟨t', h1, h2⟩ := hj2f (cm a b p (q + 1)) (Int.max_eq_right (Int.le_of_lt hg)).symm
        refine ⟨t', h1, Ev.step (f := fun k => pollardref18_Common.j1 k a b (n : Int) (p : Int) (q : Int) false ((b.length + 1 : Nat) : Int) t) (fun k => ?_) (Ev.step (f := fun k => pollardref18_Common.j2 k a b (n : Int) (p : Int) (q : Int) (cm a b p (q + 1)) ((b.length + 1 : Nat) : Int) t) (fun k => ?_) h2)⟩
        · simp only [pollardref18_Common.l0]
          rw [if_pos (nn n), if_neg hWne, hd, hr, if_neg hpn, hqn]
        · simp only [pollardref18_Common.j1]
          rw [if_neg (by simp), hw, hv, A1, Option.bind_some, A2, Option.bind_some, if_pos hg, Option.bind_some]
      · obtain ⟨t', h1, h2⟩ := hj2f (cm a b (p + 1) q) (Int.max_eq_left (Int.not_lt.mp hg)).symm
        refine ⟨t', h1, Ev.step (f := fun k => pollardref18_Common.j1 k a b (n : Int) (p : Int) (q : Int) false ((b.length + 1 : Nat) : Int) t) (fun k => ?_) (Ev.step (f := fun k => pollardref18_Common.j2 k a b (n : Int) (p : Int) (q : Int) (cm a b (p + 1) q) ((b.length + 1 : Nat) : Int) t) (fun k => ?_) h2)⟩
        · simp only [pollardref18_Common.l0]
          rw [if_pos (nn n), if_neg hWne, hd, hr, if_neg hpn, hqn]
        · simp only [pollardref18_Common.j1]
          rw [if_neg (by simp), hw, hv, A1, Option.bind_some, A2, Option.bind_some, if_neg hg]

theorem ref_common : ∃ t', Tab a b t' 0 ∧ Ev (fun k => pollardref18_Common.f k a b) (((b.length + 1 : Nat) : Int), t') := by
  have hW : wrap64 ((b.length : Int) + 1) = ((b.length + 1 : Nat) : Int) := (w64 (by omega) (by omega)).trans (by omega)
  have hA : wrap64 ((a.length : Int) + 1) = ((a.length + 1 : Nat) : Int) := (w64 (by omega) (by omega)).trans (by omega)
  have hP : wrap64 (((a.length + 1 : Nat) : Int) * ((b.length + 1 : Nat) : Int)) = (((a.length + 1) * (b.length + 1) : Nat) : Int) := by
    rw [← Int.natCast_mul]
    exact w64 (by omega) (by omega)
  have hI := ix hM (Nat.le_refl a.length) (Nat.le_refl b.length)
  have hup : a.length * (b.length + 1) + (b.length + 1) = (a.length + 1) * (b.length + 1) := by rw [Nat.add_mul, Nat.one_mul]
  obtain ⟨t', h1, h2⟩ := ref_table hM ha hb ((a.length + 1) * (b.length + 1)) _ (Nat.le_refl _) (Tab.new a b)
  refine ⟨t', h1, Ev.congr (fun k => ?_) h2⟩
  unfold pollardref18_Common.f
  rw [hW, hA, hP, if_pos (by omega), Int.toNat_natCast, if_pos (by omega), hI, show ((a.length * (b.length + 1) + b.length : Nat) : Int) = (((a.length + 1) * (b.length + 1) : Nat) : Int) - 1 by omega]

theorem ref_walk {t : List Int} (ht : Tab a b t 0) : ∀ (m i j : Nat) (out : List S70), a.length + b.length < i + j + m → i ≤ a.length → j ≤ b.length → out.length ≤ i →
    Ev (fun k => pollardref18_Pairs.l0 k a b out (i : Int) (j : Int) ((b.length + 1 : Nat) : Int) t) (out ++ (prs a b m i j).map (fun x => (⟨x.1, x.2⟩ : S70))) := by
  intro m
  induction m with
  | zero => intro i j out h1 h2 h3; omega
  | succ m ih =>
    intro i j out h1 h2 h3 h4
    rw [prs]
    by_cases h : i < a.length ∧ j < b.length
    · rw [dif_pos h]
      obtain ⟨hi, hj⟩ := h
      have hw := w64s (n := i) (by omega)
      have hv := w64s (n := j) (by omega)
      have o1 : out.length < 8796093022208 := by omega
      have k1 : a.length + b.length < i + 1 + (j + 1) + m := by omega
      have k2 : a.length + b.length < i + (j + 1) + m := by omega
      have k3 : a.length + b.length < i + 1 + j + m := by omega
      have k4 : out.length ≤ i + 1 := by omega
      have k5 : (out ++ [(⟨(i : Int), (j : Int)⟩ : S70)]).length ≤ i + 1 := by rw [List.length_append, List.length_singleton]; omega
      have A1 := at_f hM ht (p := i + 1) (q := j) hi (Nat.le_of_lt hj) (.inl (Nat.zero_le _))
      have A2 := at_f hM ht (p := i) (q := j + 1) (Nat.le_of_lt hi) hj (.inl (Nat.zero_le _))
      refine Ev.step (f := fun k => pollardref18_Pairs.j1 k a b out (i : Int) (j : Int) true ((b.length + 1 : Nat) : Int) t) (fun k => ?_) ?_
      · simp only [pollardref18_Pairs.l0]
        rw [if_pos (nl hi), decide_eq_true (nl hj)]
      by_cases hc : (a[i]'hi).toList = (b[j]'hj).toList
      · rw [if_pos hc]
        have hn := ih (i + 1) (j + 1) (out ++ [⟨(i : Int), (j : Int)⟩]) k1 hi hj k5
        rw [List.append_assoc] at hn
        refine Ev.step (f := fun k => pollardref18_Pairs.l0 k a b (out ++ [⟨(i : Int), (j : Int)⟩]) ((i + 1 : Nat) : Int) ((j + 1 : Nat) : Int) ((b.length + 1 : Nat) : Int) t) (fun k => ?_) hn
        simp only [pollardref18_Pairs.j1]
        rw [if_pos (by trivial), if_pos (nn i), if_pos (nl hi), if_pos (nn j), if_pos (nl hj), rdOf_at a i hi, rdOf_at b j hj, if_pos hc, if_pos o1, hw, hv]
      · rw [if_neg hc]
        by_cases hg : cm a b i (j + 1) > cm a b (i + 1) j
        · rw [if_pos hg]
          refine Ev.step (f := fun k => pollardref18_Pairs.l0 k a b out (i : Int) ((j + 1 : Nat) : Int) ((b.length + 1 : Nat) : Int) t) (fun k => ?_) (ih i (j + 1) out k2 h2 hj h4)
          simp only [pollardref18_Pairs.j1]
          rw [if_pos (by trivial), if_pos (nn i), if_pos (nl hi), if_pos (nn j), if_pos (nl hj), rdOf_at a i hi, rdOf_at b j hj, if_neg hc, hw, hv, A2, Option.bind_some, A1, Option.bind_some, if_pos hg]
        · rw [if_neg hg]
          refine Ev.step (f := fun k => pollardref18_Pairs.l0 k a b out ((i + 1 : Nat) : Int) (j : Int) ((b.length + 1 : Nat) : Int) t) (fun k => ?_) (ih (i + 1) j out k3 hi h3 k4)
          simp only [pollardref18_Pairs.j1]
          rw [if_pos (by trivial), if_pos (nn i), if_pos (nl hi), if_pos (nn j), if_pos (nl hj), rdOf_at a i hi, rdOf_at b j hj, if_neg hc, hw, hv, A2, Option.bind_some, A1, Option.bind_some, if_neg hg]
    · rw [dif_neg h, List.map_nil, List.append_nil]
      refine Ev.step (f := fun k => pollardref18_Pairs.j1 k a b out (i : Int) (j : Int) false ((b.length + 1 : Nat) : Int) t) (fun k => ?_) ?_
      · simp only [pollardref18_Pairs.l0]
        by_cases hi : (i : Int) < (a.length : Int)
        · rw [if_pos hi, decide_eq_false (by omega)]
        · rw [if_neg hi]
      · refine Ev.step (f := fun _ => some out) (fun k => ?_) (Ev.now _)
        simp only [pollardref18_Pairs.j1]
        rw [if_neg (by simp)]

theorem ref_pairs : Ev (fun k => pollardref18_Pairs.f k a b) ((prs a b (a.length + b.length + 1) 0 0).map (fun x => (⟨x.1, x.2⟩ : S70))) := by
  obtain ⟨t', h1, h2⟩ := ref_common hM ha hb
  unfold pollardref18_Pairs.f
  exact Ev.bind h2 (ref_walk hM ha hb h1 (a.length + b.length + 1) 0 0 [] (by omega) (by omega) (by omega) (by simp))
end
end Go.Proofs.YtfkajhppdeidjaaDoor.Pl
