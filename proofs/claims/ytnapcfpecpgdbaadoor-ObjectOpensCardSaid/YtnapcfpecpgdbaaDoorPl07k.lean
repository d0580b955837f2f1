/- May a commit be: what the program and the reference come to. -/
import Derived.Test.YtnapcfpecpgdbaaDoorPl07x
import Derived.Test.YtnapcfpecpgdbaaDoorPl07w
import Derived.Test.YtnapcfpecpgdbaaDoorPlName
import Derived.Test.YtnapcfpecpgdbaaDoorMx8
import Derived.Test.YtnapcfpecpgdbaaDoorMx7
import Derived.Test.YtnapcfpecpgdbaaDoorMx16
import Derived.Test.YtnapcfpecpgdbaaDoorMx18
namespace Go.Proofs.YtnapcfpecpgdbaaDoor.Pl
set_option linter.unusedVariables false
set_option linter.unusedSimpArgs false
open Go.RowKit Go.Proofs.YtnapcfpecpgdbaaDoor.M Go.Proofs.YtnapcfpecpgdbaaDoorW.PrintWords Go.Proofs.YtnapcfpecpgdbaaDoorW.PrintLast

def repL (l : List UInt8) : List UInt8 := l.map fun x => if x = 47 then 45 else x
/-- May a text be an author? -/
def authV (s : ByteArray) : Bool := if s.size = 0 then false else (label_Name.f (mk (repL s.toList))).getD false
theorem author_prog (s : ByteArray) (hs : s.size ≤ 1000000) : ob_author.f s = some (authV s) := by
 unfold ob_author.f authV
 rw [if_pos hs]
 by_cases h : s.size = 0
 · rw [if_pos h, if_pos h]
 · rw [if_neg h, if_neg h, ← toList_eq]
   obtain ⟨r, h1, _⟩ := name_eq (mk (repL s.toList)) (by rw [mk_size, repL, List.length_map, toList_length]; omega)
   have e : (⟨(ob_author.rep s.toList).toArray⟩ : ByteArray) = mk (repL s.toList) := rfl
   rw [e, h1]
   rfl
theorem author_ref (s : ByteArray) (hs : s.size ≤ 1000000) : Ev (fun k => r7_author.f k s) (authV s) := by
 obtain ⟨r, h1, h2⟩ := name_eq (mk (repL s.toList)) (by rw [mk_size, repL, List.length_map, toList_length]; omega)
 have e : (⟨(r7_author.rep s.data.toList).toArray⟩ : ByteArray) = mk (repL s.toList) := by rw [toList_eq]; rfl
 unfold r7_author.f authV
 simp only [if_pos hs, e]
 by_cases h : s.size = 0
 · rw [if_pos h]
   have hl : s.toList = [] := size_zero.mpr h
   rw [hl] at h1 h2 ⊢
   have : r = false := by
    have e2 : label_Name.f (mk (repL [])) = some false := by
     have e3 : mk (repL []) = ⟨#[]⟩ := rfl
     rw [e3]
     unfold label_Name.f
     simp [toList_nil]
    rw [e2] at h1
    exact (Option.some.inj h1).symm
   rw [this] at h2
   exact h2
 · rw [if_neg h, h1]
   exact h2
/-- Why a commit may not be. -/
def chkC (T : ByteArray) (ps : List ByteArray) (au tx : ByteArray) : Int := if 4 < ps.length then 3 else if T.size = 32 ∧ (∀ p ∈ ps, p.size = 32) ∧ authV au = true ∧ textV tx = true ∧ ps.Nodup then 0 else 6

theorem idx_l0 (l : List ByteArray) (x : ByteArray) (hl : l.length ≤ 1000000) : ∀ (r : List ByteArray) (i : Nat), l.drop i = r → ∃ v : Int, Ev (fun k => sIx.l0 k l x (l.length : Int) (i : Int)) v ∧ (0 ≤ v ↔ x ∈ r)
 | [], i, h => by
  have hle : l.length ≤ i := List.drop_eq_nil_iff.mp h
  refine ⟨-1, Ev.step (f := fun _ => some (-1)) (fun k => ?_) (Ev.now _), by simp⟩
  rw [sIx.l0, if_neg (by omega)]
 | y :: r, i, h => by
  have hlt : i < l.length := by
   rcases Nat.lt_or_ge i l.length with h1 | h1
   · exact h1
   · rw [List.drop_eq_nil_of_le h1] at h
     cases h
  have h' := h
  rw [List.drop_eq_getElem_cons hlt] at h'
  injection h' with e1 e2
  have hr : rdOf ByteArray.empty l (i : Int) = y := by
   unfold rdOf
   rw [Int.toNat_natCast, List.getD_eq_getElem?_getD, List.getElem?_eq_getElem hlt, ← e1]
   rfl
  by_cases hx : x.toList = y.toList
  · refine ⟨(i : Int), Ev.step (f := fun _ => some (i : Int)) (fun k => ?_) (Ev.now _), ?_⟩
    · rw [sIx.l0, if_pos (by omega), if_pos (by omega), if_pos (by omega), hr, if_pos hx]
    · rw [ba_ext hx]
      exact ⟨fun _ => List.mem_cons_self, fun _ => by omega⟩
  · obtain ⟨v, hv, hm⟩ := idx_l0 l x hl r (i + 1) e2
    refine ⟨v, Ev.step (f := fun k => sIx.l0 k l x (l.length : Int) ((i + 1 : Nat) : Int)) (fun k => ?_) hv, ?_⟩
    · rw [sIx.l0, if_pos (by omega), if_pos (by omega), if_pos (by omega), hr, if_neg hx, w64 (by omega) (by omega)]
      rfl
    · rw [hm, List.mem_cons]
      exact ⟨fun h => .inr h, fun h => h.elim (fun he => absurd (by rw [he]) hx) id⟩
theorem contains_ev (l : List ByteArray) (x : ByteArray) (hl : l.length ≤ 1000000) : ∃ b : Bool, Ev (fun k => sCo.f k l x) b ∧ (b = true ↔ x ∈ l) := by
 obtain ⟨v, hv, hm⟩ := idx_l0 l x hl l 0 rfl
 refine ⟨decide (v ≥ 0), ?_, by rw [decide_eq_true_eq]; exact hm⟩
 unfold sCo.f sIx.f
 exact Ev.bind hv (Ev.now _)
theorem dup_ev (l : List ByteArray) (hl : l.length ≤ 1000000) : ∀ (n i : Nat), i + n = l.length → (l.take i).Nodup → Ev (fun k => ob_CheckCommit.dup k l n i) (if l.Nodup then 0 else 6)
 | 0, i, h, hn => by
  rw [List.take_of_length_le (by omega)] at hn
  rw [if_pos hn]
  unfold ob_CheckCommit.dup
  exact Ev.now _
 | n + 1, i, h, hn => by
  have hlt : i < l.length := by omega
  have hr : rdOf ByteArray.empty l (i : Int) = l[i] := by
   unfold rdOf
   rw [Int.toNat_natCast, List.getD_eq_getElem?_getD, List.getElem?_eq_getElem hlt]
   rfl
  unfold ob_CheckCommit.dup
  obtain ⟨b, hb, hbm⟩ := contains_ev (l.take i) (rdOf ByteArray.empty l (i : Int)) (by rw [List.length_take]; omega)
  refine Ev.bind hb ?_
  rw [hr] at hbm
  have ht : l.take (i + 1) = l.take i ++ [l[i]] := (List.take_append_getElem hlt).symm
  by_cases hm : l[i] ∈ l.take i
  · simp only [hbm.mpr hm, if_true]
    rw [if_neg]
    · exact Ev.now _
    · intro hnd
      have h2 : (l.take (i + 1)).Nodup := hnd.sublist (List.take_sublist _ _)
      rw [ht, List.nodup_append] at h2
      exact h2.2.2 _ hm _ (List.mem_singleton.mpr rfl) rfl
  · simp only [if_neg (show ¬ (b = true) from fun h => hm (hbm.mp h))]
    refine dup_ev l hl n (i + 1) (by omega) ?_
    rw [ht, List.nodup_append]
    refine ⟨hn, by simp, ?_⟩
    intro a ha b hb hab
    rw [List.mem_singleton] at hb
    rw [hab, hb] at ha
    exact hm ha
theorem chkc_prog (T : ByteArray) (ps : List ByteArray) (au : ByteArray) (tm : Int) (tx : ByteArray) (hp : ps.length ≤ 1000000) (ha : au.size ≤ 1000000) (ht : tx.size ≤ 1000000) : Ev (fun k => ob_CheckCommit.f k T ps au tm tx) (chkC T ps au tx) := by
 unfold ob_CheckCommit.f chkC
 simp only [if_pos hp]
 by_cases h4 : ps.length > 4
 · simp only [if_pos h4]
   exact Ev.now _
 ·
  simp only [if_neg h4]
  by_cases ho : ob_CheckCommit.odd (T :: ps) = true
  · simp only [if_pos ho]
    rw [if_neg]
    · exact Ev.now _
    · rintro ⟨h1, h2, _⟩
      rw [ob_CheckCommit.odd, List.any_eq_true] at ho
      obtain ⟨x, hx, hx2⟩ := ho
      rw [decide_eq_true_eq] at hx2
      rcases List.mem_cons.mp hx with rfl | hx
      · exact hx2 h1
      · exact hx2 (h2 x hx)
  ·
   simp only [if_neg ho]
   have hall : T.size = 32 ∧ ∀ p ∈ ps, p.size = 32 := by
    rw [ob_CheckCommit.odd, List.any_eq_true] at ho
    constructor
    · by_cases h : T.size = 32
      · exact h
      · exact absurd ⟨T, List.mem_cons_self, by simpa using h⟩ ho
    · intro p hp2
      by_cases h : p.size = 32
      · exact h
      · exact absurd ⟨p, List.mem_cons_of_mem _ hp2, by simpa using h⟩ ho
   simp only [author_prog au ha, Option.bind_some, text_prog tx (show tx.size ≤ 70368744177664 by omega)]
   by_cases h5 : authV au = true
   ·
    simp only [if_pos h5]
    by_cases h6 : textV tx = true
    · simp only [if_pos h6]
      have hd := dup_ev ps hp ps.length 0 (by omega) (by simp)
      by_cases hn : ps.Nodup
      · rw [if_pos hn] at hd
        rw [if_pos ⟨hall.1, hall.2, h5, h6, hn⟩]
        exact hd
      · rw [if_neg hn] at hd
        rw [if_neg (fun h => hn h.2.2.2.2)]
        exact hd
    · simp only [if_neg h6]
      rw [if_neg (fun h => h6 h.2.2.2.1)]
      exact Ev.now _
   · simp only [if_neg h5]
     rw [if_neg (fun h => h5 h.2.2.1)]
     exact Ev.now _
/-- From place i on each is an id, and unlike those ahead of it. -/
def okFrom (ps : List ByteArray) (i : Nat) : Prop := ∀ j, i ≤ j → ∀ h : j < ps.length, ps[j].size = 32 ∧ ∀ m (hm : m < j), ps[m]'(by omega) ≠ ps[j]
theorem okFrom_zero (ps : List ByteArray) : okFrom ps 0 ↔ (∀ p ∈ ps, p.size = 32) ∧ ps.Nodup := by
 constructor
 · intro h
   constructor
   · intro p hp
     obtain ⟨j, hj, rfl⟩ := List.getElem_of_mem hp
     exact (h j (by omega) hj).1
   · rw [List.Nodup, List.pairwise_iff_getElem]
     intro i j hi hj hij
     exact (h j (by omega) hj).2 i hij
 · rintro ⟨h1, h2⟩ j _ hj
   refine ⟨h1 _ (List.getElem_mem hj), fun m hm => ?_⟩
   rw [List.Nodup, List.pairwise_iff_getElem] at h2
   exact h2 m j (by omega) hj hm
theorem rd_at (ps : List ByteArray) (j : Nat) (h : j < ps.length) : rdOf ByteArray.empty ps (j : Int) = ps[j] := by
 unfold rdOf
 rw [Int.toNat_natCast, List.getD_eq_getElem?_getD, List.getElem?_eq_getElem h]
 rfl
/-- A result that is 0 just where this is so, and else 6. -/
def Tells (g : Nat → Option Int) (P : Prop) : Prop := ∃ r : Int, Ev g r ∧ (r = 0 ∨ r = 6) ∧ (r = 0 ↔ P)
theorem Tells.iff {g : Nat → Option Int} {P Q : Prop} (h : Tells g P) (e : P ↔ Q) : Tells g Q := by
 obtain ⟨r, h1, h2, h3⟩ := h
 exact ⟨r, h1, h2, h3.trans e⟩
theorem Tells.step {g f : Nat → Option Int} {P : Prop} (h : ∀ k, g (k + 1) = f k) (k : Tells f P) : Tells g P := by
 obtain ⟨r, h1, h2⟩ := k
 exact ⟨r, Ev.step h h1, h2⟩
theorem Tells.no {g : Nat → Option Int} (h : Ev g 6) : Tells g False := ⟨6, h, .inr rfl, by simp⟩
theorem Tells.yes {g : Nat → Option Int} (h : Ev g 0) : Tells g True := ⟨0, h, .inl rfl, by simp⟩
section
variable (T : ByteArray) (ps : List ByteArray) (au : ByteArray) (tm : Int) (tx : ByteArray) (hl : ps.length ≤ 1000000)
include hl
theorem l1_ev (i : Nat) (hi : i < ps.length) (P : Prop) (hb : Tells (fun k => r7_CheckCommit.l0 k true ((i + 1 : Nat) : Int) T ps au tm tx) P) (hf : Tells (fun k => r7_CheckCommit.l0 k false ((i + 1 : Nat) : Int) T ps au tm tx) False) : ∀ (n m : Nat) (b : Bool), m + n = i →
 Tells (fun k => r7_CheckCommit.l1 k b (i : Int) (m : Int) T ps au tm tx) ((b = true ∧ (∀ q, m ≤ q → ∀ h : q < i, ps[q]'(by omega) ≠ ps[i])) ∧ P)
 | 0, m, b, h => by
  have hm : m = i := by omega
  subst hm
  refine Tells.step (f := fun k => r7_CheckCommit.l0 k b ((m + 1 : Nat) : Int) T ps au tm tx) (fun k => ?_) ?_
  · rw [r7_CheckCommit.l1, if_neg (by omega), w64 (by omega) (by omega)]
    rfl
  · cases b with
    | true => exact hb.iff ⟨fun hP => ⟨⟨rfl, fun q h1 h2 => by omega⟩, hP⟩, fun h => h.2⟩
    | false => exact hf.iff ⟨fun h => h.elim, fun h => by cases h.1.1⟩
 | n + 1, m, b, h => by
  have hmi : m < i := by omega
  cases b with
  | false =>
   have ih := l1_ev i hi P hb hf n (m + 1) false (by omega)
   refine (Tells.step (f := fun k => r7_CheckCommit.l1 k false (i : Int) ((m + 1 : Nat) : Int) T ps au tm tx) (fun k => ?_) ih).iff ⟨fun h => (by cases h.1.1), fun h => (by cases h.1.1)⟩
   rw [r7_CheckCommit.l1, if_pos (by omega), if_neg (by decide), w64 (by omega) (by omega)]
   rfl
  | true =>
   have ih := l1_ev i hi P hb hf n (m + 1) ((ps[m]'(by omega)).toList != ps[i].toList) (by omega)
   refine (Tells.step (f := fun k => r7_CheckCommit.l1 k ((ps[m]'(by omega)).toList != ps[i].toList) (i : Int) ((m + 1 : Nat) : Int) T ps au tm tx) (fun k => ?_) ih).iff (and_congr_left' ?_)
   · rw [r7_CheckCommit.l1, if_pos (by omega), if_pos rfl, if_pos (by omega), if_pos (by omega), if_pos (by omega), if_pos (by omega), rd_at ps m (by omega), rd_at ps i hi, w64 (by omega) (by omega)]
     rfl
   · constructor
     · rintro ⟨h1, h2⟩
       refine ⟨rfl, fun q hq hqi => ?_⟩
       by_cases hqm : q = m
       · subst hqm
         intro he
         rw [he] at h1
         simp at h1
       · exact h2 q (by omega) hqi
     · rintro ⟨_, h2⟩
       exact ⟨bne_iff_ne.mpr (fun he => h2 m (Nat.le_refl _) hmi (ba_ext he)), fun q hq hqi => h2 q (by omega) hqi⟩
theorem l0_ev : ∀ (n i : Nat), i + n = ps.length → Tells (fun k => r7_CheckCommit.l0 k true (i : Int) T ps au tm tx) (okFrom ps i) ∧ Tells (fun k => r7_CheckCommit.l0 k false (i : Int) T ps au tm tx) False
 | 0, i, h => by
  constructor
  · refine (Tells.yes (Ev.step (f := fun _ => some 0) (fun k => ?_) (Ev.now _))).iff ⟨fun _ j h1 h2 => by omega, fun _ => trivial⟩
    rw [r7_CheckCommit.l0, if_neg (by omega), if_pos rfl]
  · refine Tells.no (Ev.step (f := fun _ => some 6) (fun k => ?_) (Ev.now _))
    rw [r7_CheckCommit.l0, if_neg (by omega), if_neg (by decide)]
 | n + 1, i, h => by
  have hi : i < ps.length := by omega
  obtain ⟨ih1, ih2⟩ := l0_ev n (i + 1) (by omega)
  have hj : ∀ b : Bool, Tells (fun k => r7_CheckCommit.j2 k b (i : Int) T ps au tm tx) ((b = true ∧ (∀ q, 0 ≤ q → ∀ h : q < i, ps[q]'(by omega) ≠ ps[i])) ∧ okFrom ps (i + 1)) := by
   intro b
   refine Tells.step (f := fun k => r7_CheckCommit.l1 k b (i : Int) ((0 : Nat) : Int) T ps au tm tx) (fun k => ?_) (l1_ev T ps au tm tx hl i hi _ ih1 ih2 i 0 b (by omega))
   rw [r7_CheckCommit.j2]
   rfl
  constructor
  · refine (Tells.step (f := fun k => r7_CheckCommit.j2 k ((ps[i].size : Int) == 32) (i : Int) T ps au tm tx) (fun k => ?_) (hj _)).iff ?_
    · rw [r7_CheckCommit.l0, if_pos (by omega), if_pos rfl, if_pos (by omega), rd_at ps i hi]
    · rw [beq_iff_eq]
      constructor
      · rintro ⟨⟨h1, h2⟩, h3⟩ j hj1 hj2
        by_cases he : j = i
        · subst he
          exact ⟨by omega, fun m hm => h2 m (by omega) hm⟩
        · exact h3 j (by omega) hj2
      · intro h1
        exact ⟨⟨by have := (h1 i (Nat.le_refl _) hi).1; omega, fun q _ hq => (h1 i (Nat.le_refl _) hi).2 q hq⟩, fun j hj1 hj2 => h1 j (by omega) hj2⟩
  · refine (Tells.step (f := fun k => r7_CheckCommit.j2 k false (i : Int) T ps au tm tx) (fun k => ?_) (hj false)).iff ⟨fun h => (by cases h.1.1), fun h => h.elim⟩
    rw [r7_CheckCommit.l0, if_pos (by omega), if_neg (by decide)]
theorem chkc_ref (ha : au.size ≤ 1000000) (ht : tx.size ≤ 1000000) : Ev (fun k => r7_CheckCommit.f k T ps au tm tx) (chkC T ps au tx) := by
 unfold r7_CheckCommit.f chkC
 by_cases h4 : 4 < ps.length
 · simp only [if_pos (show (ps.length : Int) > 4 by omega), if_pos h4]
   exact Ev.now _
 ·
  simp only [if_neg (show ¬ (ps.length : Int) > 4 by omega), if_neg h4]
  have hj : ∀ b : Bool, Tells (fun k => r7_CheckCommit.j0 k b T ps au tm tx) (b = true ∧ okFrom ps 0) := by
   intro b
   obtain ⟨h1, h2⟩ := l0_ev T ps au tm tx hl ps.length 0 (by omega)
   cases b with
   | true =>
    refine (Tells.step (f := fun k => r7_CheckCommit.l0 k true ((0 : Nat) : Int) T ps au tm tx) (fun k => ?_) h1).iff ⟨fun h => ⟨rfl, h⟩, fun h => h.2⟩
    rw [r7_CheckCommit.j0]
    rfl
   | false =>
    refine (Tells.step (f := fun k => r7_CheckCommit.l0 k false ((0 : Nat) : Int) T ps au tm tx) (fun k => ?_) h2).iff ⟨fun h => h.elim, fun h => by cases h.1⟩
    rw [r7_CheckCommit.j0]
    rfl
  have hno : Ev (fun k => r7_CheckCommit.j0 k false T ps au tm tx) 6 := by
   obtain ⟨r, h1, h2, h3⟩ := hj false
   rcases h2 with rfl | rfl
   · exact absurd (h3.mp rfl).1 (by decide)
   · exact h1
  by_cases h1 : T.size = 32
  ·
   simp only [if_pos (show (T.size : Int) = 32 by omega)]
   refine Ev.bind (author_ref au ha) ?_
   by_cases h5 : authV au = true
   ·
    simp only [if_pos h5]
    refine Ev.bind (text_ref tx (by omega)) ?_
    obtain ⟨r, r1, r2, r3⟩ := hj (textV tx)
    by_cases hc : T.size = 32 ∧ (∀ p ∈ ps, p.size = 32) ∧ authV au = true ∧ textV tx = true ∧ ps.Nodup
    · rw [if_pos hc]
      have : r = 0 := r3.mpr ⟨hc.2.2.2.1, (okFrom_zero ps).mpr ⟨hc.2.1, hc.2.2.2.2⟩⟩
      rw [this] at r1
      exact r1
    · rw [if_neg hc]
      rcases r2 with rfl | rfl
      · obtain ⟨q1, q2⟩ := r3.mp rfl
        obtain ⟨q3, q4⟩ := (okFrom_zero ps).mp q2
        exact absurd ⟨h1, q3, h5, q1, q4⟩ hc
      · exact r1
   · simp only [if_neg h5]
     rw [if_neg (fun h => h5 h.2.2.1)]
     exact hno
  · simp only [if_neg (show ¬ (T.size : Int) = 32 by omega)]
    rw [if_neg (fun h => h1 h.1)]
    exact hno
end
end Go.Proofs.YtnapcfpecpgdbaaDoor.Pl
