/- Which texts may be names of refs: as the document has it. -/
import Derived.Test.YtgepbdkbleapaaaMx8
import Derived.Test.YtgepbdkbleapaaaMx3
import Derived.Test.YtgepbdkbleapaaaMx2
import Derived.Test.YtgepbdkbleapaaaPl13u
namespace Go.Proofs.Ytgepbdkbleapaaa.Pl
open Go.RowKit Go.Proofs.Ytgepbdkbleapaaa.M Go.Proofs.YtgepbdkbleapaaaW.PrintWords Go.Proofs.YtgepbdkbleapaaaW.PrintLast

/-- May a byte stand in a ref's name? -/
def okB (b : Int) : Bool := decide (97 ≤ b ∧ b ≤ 122 ∨ 48 ≤ b ∧ b ≤ 57 ∨ b = 45 ∨ b = 95)

def allB (s : ByteArray) : Nat → Nat → Bool
  | 0, _ => true
  | n + 1, pos => if pos < s.size then (okB (bt s pos) && allB s n (pos + 1)) else true

def rv (kind : Int) (s : ByteArray) (b : Bool) : Int := match b with | true => if s.size > 64 then 0 else kind | false => 0

theorem allB_in (s : ByteArray) (n pos : Nat) (h : pos < s.size) : allB s (n + 1) pos = (okB (bt s pos) && allB s n (pos + 1)) := by
  simp only [allB]
  rw [if_pos h]

theorem allB_out (s : ByteArray) (n pos : Nat) (h : ¬ pos < s.size) : allB s n pos = true := by
  cases n with
  | zero => rfl
  | succ n => simp only [allB]; rw [if_neg h]

theorem ref_l0 (kind : Int) (s : ByteArray) (hs : s.size ≤ 140737488351232) (fuel : Nat) : ∀ pos : Nat, pos ≤ s.size → s.size ≤ pos + fuel →
    Ev (fun k => pollardref05_Ref.l0 k kind s pos) (rv kind s (allB s fuel pos)) := by
  induction fuel with
  | zero =>
    intro pos h1 h2
    refine Ev.step (f := fun _ => some (if s.size > 64 then 0 else kind)) (fun k => ?_) (Ev.now _)
    simp only [pollardref05_Ref.l0]
    rw [if_neg (by omega)]
    by_cases h : s.size > 64
    · rw [if_pos (by omega), if_pos h]
    · rw [if_neg (by omega), if_neg h]
  | succ fuel ih =>
    intro pos h1 h2
    by_cases hp : pos < s.size
    · have hb := bt_range s (pos : Int)
      have ih' := ih (pos + 1) (by omega) (by omega)
      rw [allB_in s fuel pos hp]
      have w1 : wrap64 ((pos : Int) + 1) = ((pos + 1 : Nat) : Int) := by rw [w64 (by omega) (by omega)]; rfl
      by_cases ho : okB (bt s pos) = true
      · rw [ho, Bool.true_and]
        refine Ev.step (f := fun k => pollardref05_Ref.l0 k kind s ((pos + 1 : Nat) : Int)) (fun k => ?_) ih'
        have ho' := of_decide_eq_true ho
        simp only [pollardref05_Ref.l0]
        rw [if_pos (by omega), if_pos (by omega), w1]
        by_cases c1 : bt s pos ≥ 97
        · rw [if_pos c1]
          by_cases c2 : bt s pos ≤ 122
          · rw [if_pos c2]
          · exfalso; omega
        · rw [if_neg c1]
          by_cases c2 : bt s pos ≥ 48
          · rw [if_pos c2]
            by_cases c3 : bt s pos ≤ 57
            · rw [if_pos c3]
            · rw [if_neg c3, if_neg (by omega), if_pos (by omega)]
          · rw [if_neg c2, if_pos (by omega)]
      · rw [Bool.not_eq_true] at ho
        rw [ho, Bool.false_and]
        refine Ev.step (f := fun _ => some 0) (fun k => ?_) (Ev.now 0)
        have ho' := of_decide_eq_false ho
        simp only [pollardref05_Ref.l0]
        rw [if_pos (by omega), if_pos (by omega), w1]
        by_cases c1 : bt s pos ≥ 97
        · rw [if_pos c1, if_neg (by omega), if_pos (by omega), if_neg (by omega), if_neg (by omega), if_neg (by omega)]
        · rw [if_neg c1]
          by_cases c2 : bt s pos ≥ 48
          · rw [if_pos c2, if_neg (by omega), if_neg (by omega), if_neg (by omega)]
          · rw [if_neg c2, if_neg (by omega), if_neg (by omega)]
    · rw [allB_out s _ pos hp]
      refine Ev.step (f := fun _ => some (if s.size > 64 then 0 else kind)) (fun k => ?_) (Ev.now _)
      simp only [pollardref05_Ref.l0]
      rw [if_neg (by omega)]
      by_cases h : s.size > 64
      · rw [if_pos (by omega), if_pos h]
      · rw [if_neg (by omega), if_neg h]

theorem refgo_allB (s : ByteArray) (fuel : Nat) : ∀ pos : Nat, pos ≤ s.size → s.size ≤ pos + fuel → label_Ref.go s fuel pos = allB s fuel pos := by
  induction fuel with
  | zero => intro pos h1 h2; rfl
  | succ fuel ih =>
    intro pos h1 h2
    simp only [label_Ref.go, allB]
    by_cases hp : pos < s.size
    · rw [if_pos hp, if_pos hp]
      have hg := get_bt s pos hp
      by_cases ha : (s[pos]'hp).toNat < 128
      · have hb := bt_nat s pos hp
        rw [decode_ascii s pos hp ha]
        simp only
        rw [← hb, ih (pos + 1) (by omega) (by omega)]
        have e : label_Ref.ok (bt s pos) = okB (bt s pos) := by
          unfold label_Ref.ok okB
          rw [Bool.eq_iff_iff]
          simp
          omega
        rw [e]
        cases okB (bt s pos)
        · simp
        · simp
      · have hb := bt_nat s pos hp
        have hh := (decode_high s pos hp (by omega)).1
        have e1 : label_Ref.ok ((Utf8.decode s pos).1 : Int) = false := by
          unfold label_Ref.ok
          simp
          omega
        have e2 : okB (bt s pos) = false := by
          unfold okB
          simp
          omega
        rw [if_pos e1, e2, Bool.false_and]
    · rw [if_neg hp, if_neg hp]

theorem cutp (s p : ByteArray) : strings_CutPrefix.f s p = if p.size ≤ s.size ∧ (s.extract 0 p.size).toList = p.toList then some (s.extract p.size s.size, true) else some (s, false) := by
  unfold strings_CutPrefix.f stringslite_CutPrefix.f stringslite_HasPrefix.f
  by_cases h : p.size ≤ s.size
  · rw [if_pos (by omega), if_pos (by omega), if_pos (by omega)]
    simp only [Option.bind_some, Int.toNat_natCast]
    by_cases e : (s.extract 0 p.size).toList = p.toList
    · rw [if_pos (by simpa using e), if_pos (by omega), if_pos (by omega), if_pos ⟨h, e⟩]
      simp
    · rw [if_neg (by simpa using e), if_neg (by simp [e])]
      simp
  · have hn : ¬ (p.size ≤ s.size ∧ (s.extract 0 p.size).toList = p.toList) := fun hh => h hh.1
    rw [if_neg (show ¬ (s.size : Int) ≥ (p.size : Int) by omega), if_neg hn]
    simp

theorem hasp (s p : ByteArray) : strings_HasPrefix.f s p = some (decide (p.size ≤ s.size ∧ (s.extract 0 p.size).toList = p.toList)) := by
  unfold strings_HasPrefix.f stringslite_HasPrefix.f
  by_cases h : p.size ≤ s.size
  · rw [if_pos (by omega), if_pos (by omega), if_pos (by omega)]
    simp only [Option.bind_some, Int.toNat_natCast]
    congr 1
    rw [Bool.eq_iff_iff]
    simp [h]
  · rw [if_neg (by omega)]
    simp only [Option.bind_some]
    congr 1
    symm
    exact decide_eq_false (fun hh => h hh.1)

/-- What the names of refs are, in one word: 0: none; 1: a branch's; 2: another one's. -/
def refK (s : ByteArray) : Int :=
  if s.data.toList.take 6 = [104, 101, 97, 100, 115, 47] then (if label_Ref.tail (s.extract 6 s.size) = true then 1 else 0)
  else if s.data.toList.take 5 = [116, 97, 103, 115, 47] then (if label_Ref.tail (s.extract 5 s.size) = true then 2 else 0) else 0

theorem tail_nonempty (s : ByteArray) (h : 0 < s.size) (kind : Int) : rv kind s (allB s s.size 0) = if label_Ref.tail s = true then kind else 0 := by
  have hn : ¬ s.toList = ([] : List UInt8) := by
    rw [toList_eq]
    intro hh
    have h2 := congrArg List.length hh
    have h' : 0 < s.data.size := h
    simp at h2
    simp [h2] at h'
  have e : label_Ref.tail s = if s.size > 64 then false else allB s s.size 0 := by
    unfold label_Ref.tail
    rw [if_neg hn, refgo_allB s s.size 0 (by omega) (by omega)]
    by_cases h64 : s.size > 64
    · rw [if_pos (by omega), if_pos h64]
    · rw [if_neg (by omega), if_neg h64]
  rw [e]
  by_cases h64 : s.size > 64
  · rw [if_pos h64, if_neg (by simp)]
    unfold rv
    split
    · rw [if_pos h64]
    · rfl
  · rw [if_neg h64]
    unfold rv
    split
    · rename_i he
      rw [he, if_neg h64, if_pos rfl]
    · rename_i he
      rw [he, if_neg (by simp)]

theorem tail_empty (s : ByteArray) (h : s.size = 0) : label_Ref.tail s = false := by
  unfold label_Ref.tail
  rw [if_pos]
  rw [toList_eq]
  exact List.eq_nil_of_length_eq_zero (by rw [Array.length_toList]; exact h)

theorem heads_tags (s : ByteArray) (h : s.data.toList.take 6 = [104, 101, 97, 100, 115, 47]) : ¬ s.data.toList.take 5 = [116, 97, 103, 115, 47] := by
  intro h2
  have e : s.data.toList.take 5 = (s.data.toList.take 6).take 5 := by rw [List.take_take]; rfl
  rw [h2, h] at e
  simp at e

theorem ref_doc (s : ByteArray) (hs : s.size ≤ 140737488351232) : Ev (fun k => pollardref05_Ref.f k s) (refK s) := by
  have lp : ∀ (kind : Int) (t : ByteArray), t.size ≤ 140737488351232 → Ev (fun k => pollardref05_Ref.j3 k kind t) (rv kind t (allB t t.size 0)) := by
    intro kind t ht
    exact Ev.step (f := fun k => pollardref05_Ref.l0 k kind t ((0 : Nat) : Int)) (fun k => rfl) (ref_l0 kind t ht t.size 0 (by omega) (by omega))
  have z0 : Ev (fun k => pollardref05_Ref.j3 k 0 (⟨#[]⟩ : ByteArray)) 0 := lp 0 ⟨#[]⟩ (by decide)
  have e5 : ∀ n, (s.extract 0 n).toList = s.data.toList.take n := take_list s
  -- behind the second test
  have b2 : ∀ (kind : Int) (rest : ByteArray) (r : Int), Ev (fun k => pollardref05_Ref.j3 k kind rest) r → ¬ (5 < s.size ∧ s.data.toList.take 5 = [116, 97, 103, 115, 47]) → Ev (fun k => pollardref05_Ref.j1 k s kind rest) r := by
    intro kind rest r hr hn
    refine Ev.step (f := fun k => pollardref05_Ref.j2 k s kind rest false) (fun k => ?_) (Ev.step (f := fun k => pollardref05_Ref.j3 k kind rest) (fun k => ?_) hr)
    · simp only [pollardref05_Ref.j1]
      by_cases h5 : 5 < s.size
      · have ht : ¬ s.data.toList.take 5 = [116, 97, 103, 115, 47] := fun hh => hn ⟨h5, hh⟩
        rw [if_pos (by omega), if_pos (by omega), if_pos (by omega), e5, beq_eq_false_iff_ne.mpr ht]
      · rw [if_neg (by omega)]
    · simp only [pollardref05_Ref.j2]
      rw [if_neg (by simp)]
  have c2 : ∀ (kind : Int) (rest : ByteArray), 5 < s.size → s.data.toList.take 5 = [116, 97, 103, 115, 47] → Ev (fun k => pollardref05_Ref.j1 k s kind rest) (if label_Ref.tail (s.extract 5 s.size) = true then 2 else 0) := by
    intro kind rest h5 ht
    rw [← tail_nonempty _ (by rw [extract_size]; omega)]
    refine Ev.step (f := fun k => pollardref05_Ref.j2 k s kind rest true) (fun k => ?_) (Ev.step (f := fun k => pollardref05_Ref.j3 k 2 (s.extract 5 s.size)) (fun k => ?_) (lp 2 _ (by rw [extract_size]; omega)))
    · simp only [pollardref05_Ref.j1]
      rw [if_pos (by omega), if_pos (by omega), if_pos (by omega), e5, ht]
      rfl
    · simp only [pollardref05_Ref.j2]
      rw [if_pos trivial, if_pos (by omega)]
  have b1 : ∀ r, Ev (fun k => pollardref05_Ref.j1 k s 0 (⟨#[]⟩ : ByteArray)) r → ¬ (6 < s.size ∧ s.data.toList.take 6 = [104, 101, 97, 100, 115, 47]) → Ev (fun k => pollardref05_Ref.f k s) r := by
    intro r hr hn
    have j0 : Ev (fun k => pollardref05_Ref.j0 k s 0 (⟨#[]⟩ : ByteArray) false) r := Ev.step (f := fun k => pollardref05_Ref.j1 k s 0 (⟨#[]⟩ : ByteArray)) (fun k => by simp only [pollardref05_Ref.j0]; rw [if_neg (by simp)]) hr
    refine Ev.congr (fun k => ?_) j0
    unfold pollardref05_Ref.f
    by_cases h6 : 6 < s.size
    · have ht : ¬ s.data.toList.take 6 = [104, 101, 97, 100, 115, 47] := fun hh => hn ⟨h6, hh⟩
      rw [if_pos (by omega), if_pos (by omega), if_pos (by omega), e5, beq_eq_false_iff_ne.mpr ht]
    · rw [if_neg (by omega)]
  unfold refK
  by_cases h6 : s.data.toList.take 6 = [104, 101, 97, 100, 115, 47]
  · rw [if_pos h6]
    have hn5 := heads_tags s h6
    have l6 := len_of_take s 6 _ h6
    simp only [List.length_cons, List.length_nil] at l6
    by_cases h7 : 6 < s.size
    · rw [← tail_nonempty _ (by rw [extract_size]; omega)]
      have j0 : Ev (fun k => pollardref05_Ref.j0 k s 0 (⟨#[]⟩ : ByteArray) true) (rv 1 (s.extract 6 s.size) (allB (s.extract 6 s.size) (s.extract 6 s.size).size 0)) :=
        Ev.step (f := fun k => pollardref05_Ref.j1 k s 1 (s.extract 6 s.size)) (fun k => by simp only [pollardref05_Ref.j0]; rw [if_pos (by simp), if_pos (by omega)]) (b2 1 _ _ (lp 1 _ (by rw [extract_size]; omega)) (fun hh => hn5 hh.2))
      refine Ev.congr (fun k => ?_) j0
      unfold pollardref05_Ref.f
      rw [if_pos (by omega), if_pos (by omega), if_pos (by omega), e5, h6]
      rfl
    · rw [tail_empty _ (by rw [extract_size]; omega), if_neg (by simp)]
      exact b1 0 (b2 0 _ 0 z0 (fun hh => hn5 hh.2)) (fun hh => h7 hh.1)
  · rw [if_neg h6]
    by_cases h5 : s.data.toList.take 5 = [116, 97, 103, 115, 47]
    · rw [if_pos h5]
      have l5 := len_of_take s 5 _ h5
      simp only [List.length_cons, List.length_nil] at l5
      by_cases h7 : 5 < s.size
      · exact b1 _ (c2 0 _ h7 h5) (fun hh => h6 hh.2)
      · rw [tail_empty _ (by rw [extract_size]; omega), if_neg (by simp)]
        exact b1 0 (b2 0 _ 0 z0 (fun hh => h7 hh.1)) (fun hh => h6 hh.2)
    · rw [if_neg h5]
      exact b1 0 (b2 0 _ 0 z0 (fun hh => h5 hh.2)) (fun hh => h6 hh.2)

theorem ref_prog (s : ByteArray) : label_Ref.f s = some (decide (0 < refK s)) ∧ label_Head.f s = some (decide (refK s = 1)) := by
  have c6 := cutp s (⟨#[104, 101, 97, 100, 115, 47]⟩ : ByteArray)
  have c5 := cutp s (⟨#[116, 97, 103, 115, 47]⟩ : ByteArray)
  have p6 := hasp s (⟨#[104, 101, 97, 100, 115, 47]⟩ : ByteArray)
  rw [take_list, toList_eq] at c6 c5 p6
  have s6 : (⟨#[104, 101, 97, 100, 115, 47]⟩ : ByteArray).size = 6 := rfl
  have s5 : (⟨#[116, 97, 103, 115, 47]⟩ : ByteArray).size = 5 := rfl
  have d6 : (⟨#[104, 101, 97, 100, 115, 47]⟩ : ByteArray).data.toList = [104, 101, 97, 100, 115, 47] := rfl
  have d5 : (⟨#[116, 97, 103, 115, 47]⟩ : ByteArray).data.toList = [116, 97, 103, 115, 47] := rfl
  rw [s6, d6] at c6 p6
  rw [s5, d5] at c5
  have l6 := len_of_take s 6 [104, 101, 97, 100, 115, 47]
  have l5 := len_of_take s 5 [116, 97, 103, 115, 47]
  simp only [List.length_cons, List.length_nil] at l6 l5
  unfold label_Head.f
  have key : label_Ref.f s = some (decide (0 < refK s)) := by
    unfold label_Ref.f refK
    by_cases h6 : s.data.toList.take 6 = [104, 101, 97, 100, 115, 47]
    · rw [if_pos h6]
      rw [if_pos ⟨l6 h6, h6⟩] at c6
      rw [c6]
      simp only [Option.bind_some]
      cases label_Ref.tail (s.extract 6 s.size) <;> rfl
    · rw [if_neg h6]
      rw [if_neg (fun hh => h6 hh.2)] at c6
      rw [c6]
      simp only [Option.bind_some]
      by_cases h5 : s.data.toList.take 5 = [116, 97, 103, 115, 47]
      · rw [if_pos h5]
        rw [if_pos ⟨l5 h5, h5⟩] at c5
        rw [c5]
        simp only [Option.bind_some]
        cases label_Ref.tail (s.extract 5 s.size) <;> rfl
      · rw [if_neg h5]
        rw [if_neg (fun hh => h5 hh.2)] at c5
        rw [c5]
        simp
  refine ⟨key, ?_⟩
  rw [key, p6]
  simp only [Option.bind_some]
  unfold refK
  by_cases h6 : s.data.toList.take 6 = [104, 101, 97, 100, 115, 47]
  · rw [if_pos h6, decide_eq_true (⟨l6 h6, h6⟩ : 6 ≤ s.size ∧ _)]
    cases label_Ref.tail (s.extract 6 s.size) <;> rfl
  · rw [if_neg h6, decide_eq_false (fun hh : 6 ≤ s.size ∧ _ => h6 hh.2)]
    by_cases h5 : s.data.toList.take 5 = [116, 97, 103, 115, 47]
    · rw [if_pos h5]
      cases label_Ref.tail (s.extract 5 s.size) <;> rfl
    · rw [if_neg h5]
      rfl
end Go.Proofs.Ytgepbdkbleapaaa.Pl
