import Derived.Test.YtopdlgdacbonpaaMx10
import Derived.Test.YtopdlgdacbonpaaMx4
import Derived.Test.YtopdlgdacbonpaaPl06e
import Derived.Test.YtopdlgdacbonpaaPlBits
namespace Go.Proofs.Ytopdlgdacbonpaa.Pure
set_option linter.unusedVariables false
open Go.RowKit Go.Proofs.Ytopdlgdacbonpaa.M Go.Proofs.YtopdlgdacbonpaaW.PrintWords Go.Proofs.YtopdlgdacbonpaaW.PrintLast Go.Proofs.Ytopdlgdacbonpaa.Pl

theorem id_eq (c : Int) : Ev (fun k => pollardlaw06_id.f k c) (strOfNums (List.replicate 32 c)) := by
  have go : ∀ (m i : Nat), i + m = 32 → Ev (fun k => pollardlaw06_id.l0 k c (List.replicate i c) (i : Int)) (strOfNums (List.replicate 32 c)) := by
    intro m
    induction m with
    | zero =>
      intro i hi
      have e : i = 32 := by omega
      subst e
      refine Ev.step (f := fun _ => some _) (fun k => ?_) (Ev.now _)
      simp only [pollardlaw06_id.l0]
      rw [if_neg (by omega)]
    | succ m ih =>
      intro i hi
      refine Ev.step (f := fun k => pollardlaw06_id.l0 k c (List.replicate (i + 1) c) ((i + 1 : Nat) : Int)) (fun k => ?_) (ih (i + 1) (by omega))
      simp only [pollardlaw06_id.l0]
      rw [if_pos (by omega), if_pos (by rw [List.length_replicate]; omega), w64 (by omega) (by omega), List.replicate_succ']
      rfl
  exact go 32 0 (by omega)

/-- The statement's entry number i. -/
def ei (i : Nat) : S36 := ⟨strOfNums (([(97 + ((wrap64 (Int.tdiv (i : Int) 26)) % 256)) % 256, (97 + ((Int.tmod (i : Int) 26) % 256)) % 256] : List Int)), wrap64 (1 + (Int.tmod (i : Int) 3)), strOfNums (List.replicate 32 ((i : Int) % 256))⟩

def es (n : Nat) : List (S36) := (List.range n).map ei

theorem es_len (n : Nat) : (es n).length = n := by simp [es]

theorem es_succ (n : Nat) : es (n + 1) = es n ++ [ei n] := by
  unfold es
  rw [List.range_succ, List.map_append]
  rfl

theorem num_size (l : List Int) : (strOfNums l).size = l.length := by
  rw [← toList_length]
  unfold strOfNums
  rw [toList_lit, List.length_map]

theorem ei_small (i : Nat) : (ei i).f0.size = 2 ∧ (ei i).f2.size = 32 := by
  unfold ei
  simp only [num_size]
  exact ⟨rfl, List.length_replicate⟩

theorem es_small (n : Nat) : Small (es n) := by
  intro x hx
  obtain ⟨i, _, rfl⟩ := List.mem_map.mp hx
  rw [(ei_small i).1]
  omega

theorem es_good : ∀ x ∈ es 257, Pl.Good x := by
  have h : (es 257).all (fun x => nameB x.f0 && decide (1 ≤ x.f1) && decide (x.f1 ≤ 3)) = true := by decide +kernel
  intro x hx
  have h1 := List.all_eq_true.mp h x hx
  simp only [Bool.and_eq_true, decide_eq_true_eq] at h1
  obtain ⟨i, _, rfl⟩ := List.mem_map.mp hx
  exact ⟨h1.1.1, h1.1.2, h1.2, (ei_small i).2⟩

theorem es_chk : chk none (es 254) = 0 ∧ chk none (es 255) = 0 ∧ chk none (es 256) = 0 := by decide +kernel

theorem es_chkAll (n : Nat) (h : 254 ≤ n ∧ n ≤ 257) : chkAll (es n) = if n = 257 then 3 else 0 := by
  unfold chkAll
  rw [es_len]
  have hc : n = 254 ∨ n = 255 ∨ n = 256 ∨ n = 257 := by omega
  rcases hc with rfl | rfl | rfl | rfl
  · exact es_chk.1
  · exact es_chk.2.1
  · exact es_chk.2.2
  · rfl

theorem es_goods (n : Nat) (h : n ≤ 257) : ∀ x ∈ es n, Pl.Good x := by
  intro x hx
  obtain ⟨i, hi, rfl⟩ := List.mem_map.mp hx
  refine es_good _ (List.mem_map.mpr ⟨i, ?_, rfl⟩)
  rw [List.mem_range] at *
  omega

theorem lines_len : ∀ (l : List (S36)), (∀ x ∈ l, x.f0.size = 2 ∧ x.f2.size = 32) → (lines l).length ≤ 40 * l.length
  | [], _ => by simp [lines]
  | x :: l, h => by
    have ih := lines_len l (fun y hy => h y (by simp [hy]))
    obtain ⟨h1, h2⟩ := h x (by simp)
    have hw : (word x.f1).length ≤ 4 := by
      unfold word
      repeat' split
      all_goals decide
    simp only [lines, line, List.length_append, List.length_cons, toList_length]
    rw [h1, h2]
    omega

theorem es_lines (n : Nat) (h : n ≤ 257) : (lines (es n)).length ≤ 20000 := by
  have := lines_len (es n) (fun x hx => by
    obtain ⟨i, _, rfl⟩ := List.mem_map.mp hx
    exact ei_small i)
  rw [es_len] at this
  omega

theorem most_end (n : Nat) (h : 254 ≤ n ∧ n ≤ 257) : Ev (fun k => pollardlaw06_TreeMost.l0 k (n : Int) (es n) (n : Int)) true := by
  have hl := es_lines n h.2
  have hg := es_goods n h.2
  have hm : ∀ x ∈ es n, 1 ≤ x.f1 ∧ x.f1 ≤ 3 := fun x hx => ⟨(hg x hx).2.1, (hg x hx).2.2.1⟩
  obtain ⟨t, te, tl⟩ := tencode (es n) (es_small n) (by omega) (fun _ => hg)
  obtain ⟨u, up, ul⟩ := put_eq (es n) hm (by omega)
  have hut : u = t := ba_ext (ul.trans tl.symm)
  subst hut
  have rf := ref_eq (es n) (by rw [es_len]; omega)
  have td := tdecode (es n) u [] hg ul (by rw [← toList_length, ul]; omega) (by simp) (by intro x hx; cases hx) (es_small n)
  rw [List.nil_append, List.length_nil, Nat.zero_add, es_len] at td
  have ca := es_chkAll n h
  refine Ev.step (f := fun k => (tree_Encode.f k (es n)).bind fun bt219 => ((pollardlaw06_Ref.f k (es n)).bind fun t221 => ((pollardref06_Put.f t221).bind fun t224 => ((tree_Decode.f k t224).bind fun bt225 => (if (n : Int) > 256 then ((pollardlaw06_awake.f k).bind fun t229 => (if t229 = true then (if bt219.2 = 3 then (if bt219.1.toList = ([] : List UInt8) then (if bt225.2 = 3 then (some ((bt225.1.length : Int) == 0)) else (some false)) else (some false)) else (some false)) else (some false))) else ((pollardlaw06_awake.f k).bind fun t230 => (if t230 = true then (if bt219.2 = 0 then ((pollardlaw06_Ref.f k (es n)).bind fun t231 => ((pollardref06_Put.f t231).bind fun t234 => (if bt219.1.toList = t234.toList then (if bt225.2 = 0 then (some ((bt225.1.length : Int) == (n : Int))) else (some false)) else (some false)))) else (some false)) else (some false)))))))) (fun k => ?_) ?_
  · simp only [pollardlaw06_TreeMost.l0]
    rw [if_neg (by omega)]
  by_cases h7 : n = 257
  · rw [ca, if_pos h7, if_neg (by omega)] at te
    rw [if_pos (by omega)] at td
    refine Ev.bind te (Ev.bind rf ?_)
    rw [up]
    refine Ev.bind (Ev.now u) (Ev.bind td ?_)
    refine Ev.congr (fun k => if_pos (by omega)) (Ev.bind awake06 ?_)
    refine Ev.congr (fun k => ?_) (Ev.now true)
    rw [if_pos rfl, if_pos rfl, if_pos toList_nil, if_pos rfl]
    rfl
  · rw [ca, if_neg h7, if_pos rfl] at te
    rw [if_neg (by omega), ca, if_neg h7, if_pos rfl] at td
    refine Ev.bind te (Ev.bind rf ?_)
    rw [up]
    refine Ev.bind (Ev.now u) (Ev.bind td ?_)
    refine Ev.congr (fun k => if_neg (by omega)) (Ev.bind awake06 ?_)
    refine Ev.congr (fun k => (if_pos rfl).trans (if_pos rfl)) (Ev.bind rf ?_)
    rw [up]
    refine Ev.congr (fun k => ?_) (Ev.now true)
    rw [Option.bind_some, if_pos rfl, if_pos rfl, es_len, beq_self_eq_true]

theorem most_l0 (n : Nat) (h : 254 ≤ n ∧ n ≤ 257) : ∀ (m i : Nat), i + m = n → Ev (fun k => pollardlaw06_TreeMost.l0 k (n : Int) (es i) (i : Int)) true := by
  intro m
  induction m with
  | zero =>
    intro i hi
    have e : i = n := by omega
    subst e
    exact most_end i h
  | succ m ih =>
    intro i hi
    have ih' := ih (i + 1) (by omega)
    rw [es_succ] at ih'
    refine Ev.step (f := fun k => (pollardlaw06_id.f k ((i : Int) % 256)).bind fun t215 => pollardlaw06_TreeMost.l0 k (n : Int) (es i ++ [(⟨strOfNums (([(97 + ((wrap64 (Int.tdiv (i : Int) 26)) % 256)) % 256, (97 + ((Int.tmod (i : Int) 26) % 256)) % 256] : List Int)), wrap64 (1 + (Int.tmod (i : Int) 3)), t215⟩ : S36)]) ((i + 1 : Nat) : Int)) (fun k => ?_) (Ev.bind (id_eq _) ih')
    simp only [pollardlaw06_TreeMost.l0]
    rw [if_pos (by omega), es_len]
    congr 1
    funext t
    have w1 : wrap64 ((i : Int) + 1) = ((i + 1 : Nat) : Int) := (w64 (by omega) (by omega)).trans (by omega)
    rw [if_pos (by omega), w1]

theorem TreeMost : pollardlaw06_TreeMost.Pure := by
  intro a ha
  refine Ev.rounds (g := fun k => pollardlaw06_TreeMost.f k a) ?_
  unfold pollardlaw06_TreeMost.f
  obtain ⟨j, hj, hj3⟩ : ∃ j : Nat, Go.bits .and .i64 a 3 = (j : Int) ∧ j ≤ 3 := by
    have h := and_low 2 (by omega) a
    rw [show ((2 ^ 2 - 1 : Nat) : Int) = 3 by decide, show ((2 ^ 2 : Nat) : Int) = 4 by decide] at h
    exact ⟨(a % 4).toNat, by rw [h]; omega, by omega⟩
  rw [hj, w64 (by omega) (by omega), show (254 : Int) + j = ((254 + j : Nat) : Int) by omega]
  exact most_l0 (254 + j) (by omega) (254 + j) 0 (by omega)
end Go.Proofs.Ytopdlgdacbonpaa.Pure
