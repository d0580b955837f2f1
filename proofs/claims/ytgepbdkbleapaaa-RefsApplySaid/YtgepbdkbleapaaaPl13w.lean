/- Updates, one behind the other: what the program and the reference come to; in plain Lean. -/
import Derived.Test.YtgepbdkbleapaaaPl13s
import Derived.Test.YtgepbdkbleapaaaMx17
import Derived.Test.YtgepbdkbleapaaaMx13
namespace Go.Proofs.Ytgepbdkbleapaaa.Pl
set_option linter.unusedVariables false
set_option linter.unusedSimpArgs false
open Go.RowKit Go.Proofs.Ytgepbdkbleapaaa.M Go.Proofs.YtgepbdkbleapaaaW.PrintWords Go.Proofs.YtgepbdkbleapaaaW.PrintLast

abbrev Up := S34
abbrev Ug := S35
abbrev Wy := S37
def toU (x : Up) : Ug := ⟨x.f0, x.f1, x.f2, x.f3⟩
theorem rdU (L : List Up) (i : Nat) (h : i < L.length) : rd_T34 L (i : Int) = L[i]'h := by
  unfold rd_T34
  rw [Int.toNat_natCast, List.getD, List.getElem?_eq_getElem h, Option.getD_some]
theorem rdU' (L : List Up) (i : Nat) (h : i < L.length) : rd_T35 (L.map toU) (i : Int) = toU (L[i]'h) := by
  unfold rd_T35
  rw [Int.toNat_natCast, List.getD, List.getElem?_eq_getElem (by rw [List.length_map]; exact h), Option.getD_some, List.getElem_map]
theorem rdW (L : List Wy) (i : Nat) (h : i < L.length) : rd_T37 L (i : Int) = L[i]'h := by
  unfold rd_T37
  rw [Int.toNat_natCast, List.getD, List.getElem?_eq_getElem h, Option.getD_some]
/-- May a branch go so? -/
def fwd (a b : ByteArray) : List Wy → Bool
  | [] => false
  | x :: l => if x.f0.toList = a.toList then (if x.f1.toList = b.toList then true else fwd a b l) else fwd a b l
theorem fwd_l0 (a b : ByteArray) (L : List Wy) (hL : L.length ≤ 1000) : ∀ (n i : Nat), L.length - i = n → i ≤ L.length → Ev (fun k => pollardref13_Ways_Forward.l0 k L a b (i : Int)) (fwd a b (L.drop i)) := by
  intro n
  induction n with
  | zero =>
    intro i hn hi
    rw [List.drop_eq_nil_of_le (by omega)]
    refine Ev.step (f := fun _ => some false) (fun k => ?_) (Ev.now _)
    simp only [pollardref13_Ways_Forward.l0]
    rw [if_neg (by omega)]
  | succ n ih =>
    intro i hn hi
    have hlt : i < L.length := by omega
    have h2 := ih (i + 1) (by omega) (by omega)
    rw [List.drop_eq_getElem_cons hlt, fwd]
    have r0 := rdW L i hlt
    by_cases c1 : (L[i]'hlt).f0.toList = a.toList
    · rw [if_pos c1]
      by_cases c2 : (L[i]'hlt).f1.toList = b.toList
      · rw [if_pos c2]
        refine Ev.step (f := fun _ => some true) (fun k => ?_) (Ev.now _)
        simp only [pollardref13_Ways_Forward.l0]
        rw [if_pos (by omega), if_pos (by omega), r0, if_pos c1, if_pos c2]
      · rw [if_neg c2]
        refine Ev.step (fun k => ?_) h2
        simp only [pollardref13_Ways_Forward.l0]
        rw [if_pos (by omega), if_pos (by omega), r0, if_pos c1, if_neg c2, w13 (by omega)]
    · rw [if_neg c1]
      refine Ev.step (fun k => ?_) h2
      simp only [pollardref13_Ways_Forward.l0]
      rw [if_pos (by omega), if_pos (by omega), r0, if_neg c1, w13 (by omega)]
theorem fwd_f (a b : ByteArray) (L : List Wy) (hL : L.length ≤ 1000) : Ev (fun k => pollardref13_Ways_Forward.f k L a b) (fwd a b L) := by
  have := fwd_l0 a b L hL L.length 0 (by omega) (by omega)
  rw [List.drop_zero] at this
  exact this

section
variable (h now : ByteArray) (u : Up) (ws : List Wy)
def e2 (b : Bool) : Int := if b = true then 0 else if refK u.f0 = 2 then 133 else if fwd now u.f2 ws = true then 0 else 131
def e1 (b : Bool) : Int := if b = true then 132 else if u.f2.toList = ([] : List UInt8) then e2 now u ws true else if now.toList = ([] : List UInt8) then e2 now u ws true else if now.toList = u.f2.toList then e2 now u ws true else e2 now u ws u.f3
def e0 (b : Bool) : Int := if b = true then 1 else if now.toList = u.f1.toList then (if u.f2.toList = ([] : List UInt8) then e1 now u ws (u.f0.toList == h.toList) else e1 now u ws false) else 130
/-- Why an update may not be. -/
def whyE : Int := if refK u.f0 = 0 then 50 else if u.f2.toList = ([] : List UInt8) then e0 h now u ws (u.f1.toList == ([] : List UInt8)) else e0 h now u ws ((u.f2.size : Int) != 32)
end
section
variable {h now : ByteArray} {u : Up} {ws : List Wy} {L : List Rf}
theorem p2 (hw : ws.length ≤ 1000) (hk : ¬ refK u.f0 = 0) (b : Bool) : Ev (fun k => refs_whyW.j2 ws k now b u.f0 u.f1 u.f2 u.f3) (e2 now u ws b) := by
  have hh := (ref_prog u.f0).2
  have hr := refK_range u.f0
  unfold e2
  refine Ev.step (f := fun k => if b = true then (some 0) else ((label_Head.f u.f0).bind fun t143 => (if t143 = true then ((pollardref13_Ways_Forward.f k ws now u.f2).bind fun t144 => (if t144 = true then (some 0) else (some 131))) else (some 133)))) (fun k => by simp only [refs_whyW.j2]) ?_
  by_cases c : b = true
  · rw [if_pos c]; exact Ev.congr (fun k => if_pos c) (Ev.now _)
  · rw [if_neg c]
    refine Ev.congr (fun k => if_neg c) ?_
    rw [hh]
    refine Ev.congr (fun k => Option.bind_some _ _) ?_
    by_cases c2 : refK u.f0 = 2
    · rw [if_pos c2]
      exact Ev.congr (fun k => if_neg (by rw [c2]; simp)) (Ev.now _)
    · rw [if_neg c2]
      refine Ev.congr (fun k => if_pos (decide_eq_true (show refK u.f0 = 1 by omega))) ?_
      refine Ev.bind (fwd_f now u.f2 ws hw) ?_
      by_cases c3 : fwd now u.f2 ws = true
      · simp only [if_pos c3]; exact Ev.now _
      · simp only [if_neg c3]; exact Ev.now _
theorem q2 (hw : ws.length ≤ 1000) (hs : u.f0.size ≤ 140737488351232) (b : Bool) : Ev (fun k => pollardref13_why.j2 k ws now b u.f0 u.f1 u.f2 u.f3) (e2 now u ws b) := by
  unfold e2
  refine Ev.step (f := fun k => if b = true then (some 0) else ((pollardref05_Ref.f k u.f0).bind fun t155 => (if t155 = 2 then (some 133) else ((pollardref13_Ways_Forward.f k ws now u.f2).bind fun t156 => (if t156 = true then (some 0) else (some 131)))))) (fun k => by simp only [pollardref13_why.j2]) ?_
  by_cases c : b = true
  · rw [if_pos c]; exact Ev.congr (fun k => if_pos c) (Ev.now _)
  · rw [if_neg c]
    refine Ev.congr (fun k => if_neg c) ?_
    refine Ev.bind (ref_doc u.f0 hs) ?_
    by_cases c2 : refK u.f0 = 2
    · rw [if_pos c2]
      exact Ev.congr (fun k => if_pos c2) (Ev.now _)
    · rw [if_neg c2]
      refine Ev.congr (fun k => if_neg c2) ?_
      refine Ev.bind (fwd_f now u.f2 ws hw) ?_
      by_cases c3 : fwd now u.f2 ws = true
      · simp only [if_pos c3]; exact Ev.now _
      · simp only [if_neg c3]; exact Ev.now _
theorem p1 (hw : ws.length ≤ 1000) (hk : ¬ refK u.f0 = 0) (b : Bool) : Ev (fun k => refs_whyW.j1 ws k now b u.f0 u.f1 u.f2 u.f3) (e1 now u ws b) := by
  unfold e1
  by_cases c : b = true
  · rw [if_pos c]
    refine Ev.step (f := fun _ => some 132) (fun k => ?_) (Ev.now _)
    simp only [refs_whyW.j1]; rw [if_pos c]
  · rw [if_neg c]
    by_cases c1 : u.f2.toList = ([] : List UInt8)
    · rw [if_pos c1]
      refine Ev.step (fun k => ?_) (p2 hw hk true)
      simp only [refs_whyW.j1]; rw [if_neg c, if_pos c1]
    · rw [if_neg c1]
      by_cases c2 : now.toList = ([] : List UInt8)
      · rw [if_pos c2]
        refine Ev.step (fun k => ?_) (p2 hw hk true)
        simp only [refs_whyW.j1]; rw [if_neg c, if_neg c1, if_pos c2]
      · rw [if_neg c2]
        by_cases c3 : now.toList = u.f2.toList
        · rw [if_pos c3]
          refine Ev.step (fun k => ?_) (p2 hw hk true)
          simp only [refs_whyW.j1]; rw [if_neg c, if_neg c1, if_neg c2, if_pos c3]
        · rw [if_neg c3]
          refine Ev.step (fun k => ?_) (p2 hw hk u.f3)
          simp only [refs_whyW.j1]; rw [if_neg c, if_neg c1, if_neg c2, if_neg c3]
theorem q1 (hw : ws.length ≤ 1000) (hs : u.f0.size ≤ 140737488351232) (b : Bool) : Ev (fun k => pollardref13_why.j1 k ws now b u.f0 u.f1 u.f2 u.f3) (e1 now u ws b) := by
  unfold e1
  by_cases c : b = true
  · rw [if_pos c]
    refine Ev.step (f := fun _ => some 132) (fun k => ?_) (Ev.now _)
    simp only [pollardref13_why.j1]; rw [if_pos c]
  · rw [if_neg c]
    by_cases c1 : u.f2.toList = ([] : List UInt8)
    · rw [if_pos c1]
      refine Ev.step (fun k => ?_) (q2 hw hs true)
      simp only [pollardref13_why.j1]; rw [if_neg c, if_pos c1]
    · rw [if_neg c1]
      by_cases c2 : now.toList = ([] : List UInt8)
      · rw [if_pos c2]
        refine Ev.step (fun k => ?_) (q2 hw hs true)
        simp only [pollardref13_why.j1]; rw [if_neg c, if_neg c1, if_pos c2]
      · rw [if_neg c2]
        by_cases c3 : now.toList = u.f2.toList
        · rw [if_pos c3]
          refine Ev.step (fun k => ?_) (q2 hw hs true)
          simp only [pollardref13_why.j1]; rw [if_neg c, if_neg c1, if_neg c2, if_pos c3]
        · rw [if_neg c3]
          refine Ev.step (fun k => ?_) (q2 hw hs u.f3)
          simp only [pollardref13_why.j1]; rw [if_neg c, if_neg c1, if_neg c2, if_neg c3]
theorem p0 (hw : ws.length ≤ 1000) (hk : ¬ refK u.f0 = 0) (b : Bool) : Ev (fun k => refs_whyW.j0 ws k now b h L u.f0 u.f1 u.f2 u.f3) (e0 h now u ws b) := by
  unfold e0
  by_cases c : b = true
  · rw [if_pos c]
    refine Ev.step (f := fun _ => some 1) (fun k => ?_) (Ev.now _)
    simp only [refs_whyW.j0]; rw [if_pos c]
  · rw [if_neg c]
    by_cases c1 : now.toList = u.f1.toList
    · rw [if_pos c1]
      by_cases c2 : u.f2.toList = ([] : List UInt8)
      · rw [if_pos c2]
        refine Ev.step (fun k => ?_) (p1 hw hk _)
        simp only [refs_whyW.j0]; rw [if_neg c, if_pos c1, if_pos c2]
      · rw [if_neg c2]
        refine Ev.step (fun k => ?_) (p1 hw hk _)
        simp only [refs_whyW.j0]; rw [if_neg c, if_pos c1, if_neg c2]
    · rw [if_neg c1]
      refine Ev.step (f := fun _ => some 130) (fun k => ?_) (Ev.now _)
      simp only [refs_whyW.j0]; rw [if_neg c, if_neg c1]
theorem q0 (hw : ws.length ≤ 1000) (hs : u.f0.size ≤ 140737488351232) (b : Bool) : Ev (fun k => pollardref13_why.j0 k ws now b h (L.map toR) u.f0 u.f1 u.f2 u.f3) (e0 h now u ws b) := by
  unfold e0
  by_cases c : b = true
  · rw [if_pos c]
    refine Ev.step (f := fun _ => some 1) (fun k => ?_) (Ev.now _)
    simp only [pollardref13_why.j0]; rw [if_pos c]
  · rw [if_neg c]
    by_cases c1 : now.toList = u.f1.toList
    · rw [if_pos c1]
      by_cases c2 : u.f2.toList = ([] : List UInt8)
      · rw [if_pos c2]
        refine Ev.step (fun k => ?_) (q1 hw hs _)
        simp only [pollardref13_why.j0]; rw [if_neg c, if_pos c1, if_pos c2]
      · rw [if_neg c2]
        refine Ev.step (fun k => ?_) (q1 hw hs _)
        simp only [pollardref13_why.j0]; rw [if_neg c, if_pos c1, if_neg c2]
    · rw [if_neg c1]
      refine Ev.step (f := fun _ => some 130) (fun k => ?_) (Ev.now _)
      simp only [pollardref13_why.j0]; rw [if_neg c, if_neg c1]
theorem why_prog (hw : ws.length ≤ 1000) (hL : L.length ≤ 1000) (hsrt : srt L) : Ev (fun k => refs_whyW.f ws k h L u.f0 u.f1 u.f2 u.f3) (whyE h (getL u.f0 L) u ws) := by
  have g := get_prog h u.f0 L hL hsrt
  rw [getS_getL u.f0 L hsrt] at g
  have hr := (ref_prog u.f0).1
  have hg := refK_range u.f0
  unfold refs_whyW.f
  refine Ev.bind g ?_
  rw [hr]
  refine Ev.congr (fun k => Option.bind_some _ _) ?_
  unfold whyE
  by_cases c : refK u.f0 = 0
  · rw [if_pos c]
    exact Ev.congr (fun k => if_neg (by rw [c]; simp)) (Ev.now _)
  · rw [if_neg c]
    refine Ev.congr (fun k => if_pos (decide_eq_true (show 0 < refK u.f0 by omega))) ?_
    by_cases c1 : u.f2.toList = ([] : List UInt8)
    · rw [if_pos c1]
      exact Ev.congr (fun k => if_pos c1) (p0 hw c _)
    · rw [if_neg c1]
      refine Ev.congr (fun k => if_neg c1) ?_
      by_cases c2 : (u.f2.size : Int) = 32
      · rw [show ((u.f2.size : Int) != 32) = false by rw [c2]; rfl]
        exact Ev.congr (fun k => if_pos c2) (p0 hw c _)
      · rw [show ((u.f2.size : Int) != 32) = true from bne_iff_ne.mpr c2]
        exact Ev.congr (fun k => if_neg c2) (p0 hw c _)
theorem why_ref (hw : ws.length ≤ 1000) (hL : L.length ≤ 1000) (hs : u.f0.size ≤ 140737488351232) : Ev (fun k => pollardref13_why.f k h (L.map toR) u.f0 u.f1 u.f2 u.f3 ws) (whyE h (getL u.f0 L) u ws) := by
  unfold pollardref13_why.f
  refine Ev.bind (get_ref h u.f0 L hL) ?_
  refine Ev.bind (ref_doc u.f0 hs) ?_
  unfold whyE
  by_cases c : refK u.f0 = 0
  · rw [if_pos c]
    exact Ev.congr (fun k => if_pos c) (Ev.now _)
  · rw [if_neg c]
    refine Ev.congr (fun k => if_neg c) ?_
    by_cases c1 : u.f2.toList = ([] : List UInt8)
    · rw [if_pos c1]
      refine Ev.congr (fun k => if_pos c1) ?_
      by_cases c2 : u.f1.toList = ([] : List UInt8)
      · rw [show (u.f1.toList == ([] : List UInt8)) = true from beq_iff_eq.mpr c2]
        exact Ev.congr (fun k => if_pos c2) (q0 hw hs _)
      · rw [show (u.f1.toList == ([] : List UInt8)) = false from beq_eq_false_iff_ne.mpr c2]
        exact Ev.congr (fun k => if_neg c2) (q0 hw hs _)
    · rw [if_neg c1]
      exact Ev.congr (fun k => if_neg c1) (q0 hw hs _)
end
end Go.Proofs.Ytgepbdkbleapaaa.Pl
