/- The program's functions as plain functions, and that each call comes to what these tell; written by a program of this session, some contracts by hand. Conditions: none. -/
import Derived.Test.YtfkajhppdeidjaaDoorMx0
import Derived.Test.YtfkajhppdeidjaaDoorMx8
import Derived.Test.YtfkajhppdeidjaaDoorMx9
import Derived.Test.YtfkajhppdeidjaaDoorMx10
namespace Go.Proofs.YtfkajhppdeidjaaDoor.M
open Go.RowKit Go.Proofs.YtfkajhppdeidjaaDoorW.PrintWords Go.Proofs.YtfkajhppdeidjaaDoorW.PrintLast Go.Proofs.YtfkajhppdeidjaaDoorW.PrintMore
attribute [local go_sem] max2_int min2_int max_two min_two max_three min_three max_four min_four   -- for this text's walks alone
set_option linter.unusedVariables false
set_option linter.unusedSimpArgs false

/-! ### pollardref19_Chunks: function 11 -/
mutual
def pollardref19_Chunks.l0 : Nat → List ByteArray → List ByteArray → List ByteArray → List (S70) → List (S70) → List (S33) → Int → Int → Int → Option ((List (S33)))
 | 0, _, _, _, _, _, _, _, _, _ => none
 | k + 1, x0, x1, x2, x7, x8, x9, x10, x11, x12 => if x10 < (x0.length : Int) then (pollardref19_Chunks.j1 k x0 x1 x2 x7 x8 x9 x10 x11 x12 true) else (if x11 < (x1.length : Int) then (pollardref19_Chunks.j1 k x0 x1 x2 x7 x8 x9 x10 x11 x12 true) else (pollardref19_Chunks.j1 k x0 x1 x2 x7 x8 x9 x10 x11 x12 (decide (x12 < (x2.length : Int)))))
def pollardref19_Chunks.j1 : Nat → List ByteArray → List ByteArray → List ByteArray → List (S70) → List (S70) → List (S33) → Int → Int → Int → Bool → Option ((List (S33)))
 | 0, _, _, _, _, _, _, _, _, _, _ => none
 | k + 1, x0, x1, x2, x7, x8, x9, x10, x11, x12, x40 => if x40 = true then (pollardref19_Chunks.l1 k x0 x1 x2 x7 x8 x9 x10 x11 x12 0) else (some x9)
def pollardref19_Chunks.j3 : Nat → List ByteArray → List ByteArray → List ByteArray → List (S70) → List (S70) → List (S33) → Int → Int → Int → Int → Option ((List (S33)))
 | 0, _, _, _, _, _, _, _, _, _, _ => none
 | k + 1, x0, x1, x2, x7, x8, x9, x10, x11, x12, x13 => if x13 = 0 then (pollardref19_Chunks.l2 k x0 x1 x2 x7 x8 x9 x10 x11 x12 (wrap64 (x10 + x13))) else (if 0 ≤ x10 then (if x10 ≤ (wrap64 (x10 + x13)) then (if (wrap64 (x10 + x13)) ≤ (x0.length : Int) then (if 0 ≤ x11 then (if x11 ≤ (wrap64 (x11 + x13)) then (if (wrap64 (x11 + x13)) ≤ (x1.length : Int) then (if 0 ≤ x12 then (if x12 ≤ (wrap64 (x12 + x13)) then (if (wrap64 (x12 + x13)) ≤ (x2.length : Int) then (if x9.length < 1759218604441 then (pollardref19_Chunks.l0 k x0 x1 x2 x7 x8 (x9 ++ [(⟨1, ((x0.take ((wrap64 (x10 + x13)) : Int).toNat).drop (x10 : Int).toNat), ((x1.take ((wrap64 (x11 + x13)) : Int).toNat).drop (x11 : Int).toNat), ((x2.take ((wrap64 (x12 + x13)) : Int).toNat).drop (x12 : Int).toNat)⟩ : S33)]) (wrap64 (x10 + x13)) (wrap64 (x11 + x13)) (wrap64 (x12 + x13))) else (none)) else (none)) else (none)) else (none)) else (none)) else (none)) else (none)) else (none)) else (none)) else (none))
def pollardref19_Chunks.j5 : Nat → List ByteArray → List ByteArray → List ByteArray → List (S70) → List (S70) → List (S33) → Int → Int → Int → Int → Option ((List (S33)))
 | 0, _, _, _, _, _, _, _, _, _, _ => none
 | k + 1, x0, x1, x2, x7, x8, x9, x10, x11, x12, x14 => if x14 < (x0.length : Int) then ((pollardref19_partner.f k x7 x14).bind fun t249 => ((pollardref19_partner.f k x8 x14).bind fun t250 => (if 0 ≤ x10 then (if x10 ≤ x14 then (if x14 ≤ (x0.length : Int) then (if 0 ≤ x11 then (if x11 ≤ t249 then (if t249 ≤ (x1.length : Int) then (if 0 ≤ x12 then (if x12 ≤ t250 then (if t250 ≤ (x2.length : Int) then ((pollardref19_kind.f k ((x0.take (x14 : Int).toNat).drop (x10 : Int).toNat) ((x1.take (t249 : Int).toNat).drop (x11 : Int).toNat) ((x2.take (t250 : Int).toNat).drop (x12 : Int).toNat)).bind fun t266 => (if x9.length < 1759218604441 then (pollardref19_Chunks.l0 k x0 x1 x2 x7 x8 (x9 ++ [(⟨t266, ((x0.take (x14 : Int).toNat).drop (x10 : Int).toNat), ((x1.take (t249 : Int).toNat).drop (x11 : Int).toNat), ((x2.take (t250 : Int).toNat).drop (x12 : Int).toNat)⟩ : S33)]) x14 t249 t250) else (none))) else (none)) else (none)) else (none)) else (none)) else (none)) else (none)) else (none)) else (none)) else (none)))) else (if 0 ≤ x10 then (if x10 ≤ x14 then (if x14 ≤ (x0.length : Int) then (if 0 ≤ x11 then (if x11 ≤ (x1.length : Int) then (if (x1.length : Int) ≤ (x1.length : Int) then (if 0 ≤ x12 then (if x12 ≤ (x2.length : Int) then (if (x2.length : Int) ≤ (x2.length : Int) then ((pollardref19_kind.f k ((x0.take (x14 : Int).toNat).drop (x10 : Int).toNat) ((x1.take ((x1.length : Int) : Int).toNat).drop (x11 : Int).toNat) ((x2.take ((x2.length : Int) : Int).toNat).drop (x12 : Int).toNat)).bind fun t300 => (if x9.length < 1759218604441 then (pollardref19_Chunks.l0 k x0 x1 x2 x7 x8 (x9 ++ [(⟨t300, ((x0.take (x14 : Int).toNat).drop (x10 : Int).toNat), ((x1.take ((x1.length : Int) : Int).toNat).drop (x11 : Int).toNat), ((x2.take ((x2.length : Int) : Int).toNat).drop (x12 : Int).toNat)⟩ : S33)]) x14 (x1.length : Int) (x2.length : Int)) else (none))) else (none)) else (none)) else (none)) else (none)) else (none)) else (none)) else (none)) else (none)) else (none))
def pollardref19_Chunks.l2 : Nat → List ByteArray → List ByteArray → List ByteArray → List (S70) → List (S70) → List (S33) → Int → Int → Int → Int → Option ((List (S33)))
 | 0, _, _, _, _, _, _, _, _, _, _ => none
 | k + 1, x0, x1, x2, x7, x8, x9, x10, x11, x12, x14 => if x14 < (x0.length : Int) then ((pollardref19_partner.f k x7 x14).bind fun t247 => (if t247 < 0 then (pollardref19_Chunks.l2 k x0 x1 x2 x7 x8 x9 x10 x11 x12 (wrap64 (x14 + 1))) else ((pollardref19_partner.f k x8 x14).bind fun t248 => (if t248 < 0 then (pollardref19_Chunks.l2 k x0 x1 x2 x7 x8 x9 x10 x11 x12 (wrap64 (x14 + 1))) else (pollardref19_Chunks.j5 k x0 x1 x2 x7 x8 x9 x10 x11 x12 x14))))) else (pollardref19_Chunks.j5 k x0 x1 x2 x7 x8 x9 x10 x11 x12 x14)
def pollardref19_Chunks.l1 : Nat → List ByteArray → List ByteArray → List ByteArray → List (S70) → List (S70) → List (S33) → Int → Int → Int → Int → Option ((List (S33)))
 | 0, _, _, _, _, _, _, _, _, _, _ => none
 | k + 1, x0, x1, x2, x7, x8, x9, x10, x11, x12, x13 => if (wrap64 (x10 + x13)) < (x0.length : Int) then ((pollardref19_partner.f k x7 (wrap64 (x10 + x13))).bind fun t245 => (if t245 = (wrap64 (x11 + x13)) then ((pollardref19_partner.f k x8 (wrap64 (x10 + x13))).bind fun t246 => (if t246 = (wrap64 (x12 + x13)) then (pollardref19_Chunks.l1 k x0 x1 x2 x7 x8 x9 x10 x11 x12 (wrap64 (x13 + 1))) else (pollardref19_Chunks.j3 k x0 x1 x2 x7 x8 x9 x10 x11 x12 x13))) else (pollardref19_Chunks.j3 k x0 x1 x2 x7 x8 x9 x10 x11 x12 x13))) else (pollardref19_Chunks.j3 k x0 x1 x2 x7 x8 x9 x10 x11 x12 x13)
end
def pollardref19_Chunks.f (k : Nat) (l0 : List ByteArray) (l1 : List ByteArray) (l2 : List ByteArray) : Option ((List (S33))) := (pollardref18_Pairs.f k l0 l1).bind fun t236 => ((pollardref18_Pairs.f k l0 l2).bind fun t239 => (pollardref19_Chunks.l0 k l0 l1 l2 t236 t239 (([] : List (S33))) 0 0 0))
theorem pollardref19_Chunks.mono_l : ∀ k, (∀ y0 y1 y2 y3 y4 y5 y6 y7 y8, LeO (pollardref19_Chunks.l0 k y0 y1 y2 y3 y4 y5 y6 y7 y8) (pollardref19_Chunks.l0 (k + 1) y0 y1 y2 y3 y4 y5 y6 y7 y8)) ∧ (∀ y0 y1 y2 y3 y4 y5 y6 y7 y8 y9, LeO (pollardref19_Chunks.j1 k y0 y1 y2 y3 y4 y5 y6 y7 y8 y9) (pollardref19_Chunks.j1 (k + 1) y0 y1 y2 y3 y4 y5 y6 y7 y8 y9)) ∧ (∀ y0 y1 y2 y3 y4 y5 y6 y7 y8 y9, LeO (pollardref19_Chunks.j3 k y0 y1 y2 y3 y4 y5 y6 y7 y8 y9) (pollardref19_Chunks.j3 (k + 1) y0 y1 y2 y3 y4 y5 y6 y7 y8 y9)) ∧ (∀ y0 y1 y2 y3 y4 y5 y6 y7 y8 y9, LeO (pollardref19_Chunks.j5 k y0 y1 y2 y3 y4 y5 y6 y7 y8 y9) (pollardref19_Chunks.j5 (k + 1) y0 y1 y2 y3 y4 y5 y6 y7 y8 y9)) ∧ (∀ y0 y1 y2 y3 y4 y5 y6 y7 y8 y9, LeO (pollardref19_Chunks.l2 k y0 y1 y2 y3 y4 y5 y6 y7 y8 y9) (pollardref19_Chunks.l2 (k + 1) y0 y1 y2 y3 y4 y5 y6 y7 y8 y9)) ∧ (∀ y0 y1 y2 y3 y4 y5 y6 y7 y8 y9, LeO (pollardref19_Chunks.l1 k y0 y1 y2 y3 y4 y5 y6 y7 y8 y9) (pollardref19_Chunks.l1 (k + 1) y0 y1 y2 y3 y4 y5 y6 y7 y8 y9))
 | 0 => ⟨fun _ _ _ _ _ _ _ _ _ r h => by simp [pollardref19_Chunks.l0] at h, fun _ _ _ _ _ _ _ _ _ _ r h => by simp [pollardref19_Chunks.j1] at h, fun _ _ _ _ _ _ _ _ _ _ r h => by simp [pollardref19_Chunks.j3] at h, fun _ _ _ _ _ _ _ _ _ _ r h => by simp [pollardref19_Chunks.j5] at h, fun _ _ _ _ _ _ _ _ _ _ r h => by simp [pollardref19_Chunks.l2] at h, fun _ _ _ _ _ _ _ _ _ _ r h => by simp [pollardref19_Chunks.l1] at h⟩
 | k + 1 => by
  obtain ⟨ih0, ih1, ih2, ih3, ih4, ih5⟩ := pollardref19_Chunks.mono_l k
  refine ⟨?_, ?_, ?_, ?_, ?_, ?_⟩
  ·
   intro y0 y1 y2 y3 y4 y5 y6 y7 y8
   unfold pollardref19_Chunks.l0
   repeat' first
   | (with_reducible exact ih0 _ _ _ _ _ _ _ _ _)
   | (with_reducible exact ih1 _ _ _ _ _ _ _ _ _ _)
   | (with_reducible exact ih2 _ _ _ _ _ _ _ _ _ _)
   | (with_reducible exact ih3 _ _ _ _ _ _ _ _ _ _)
   | (with_reducible exact ih4 _ _ _ _ _ _ _ _ _ _)
   | (with_reducible exact ih5 _ _ _ _ _ _ _ _ _ _)
   | (with_reducible exact pollardref18_Pairs.mono _ _ _)
   | (with_reducible exact pollardref19_kind.mono _ _ _ _)
   | (with_reducible exact pollardref19_partner.mono _ _ _)
   | (with_reducible exact LeO.refl _)
   | (with_reducible exact LeO.none _)
   | (with_reducible refine LeO.ite ?_ ?_)
   | (with_reducible refine LeO.bind ?_ (fun _ => ?_))
   | exact ih0 _ _ _ _ _ _ _ _ _
   | exact ih1 _ _ _ _ _ _ _ _ _ _
   | exact ih2 _ _ _ _ _ _ _ _ _ _
   | exact ih3 _ _ _ _ _ _ _ _ _ _
   | exact ih4 _ _ _ _ _ _ _ _ _ _
   | exact ih5 _ _ _ _ _ _ _ _ _ _
   | exact pollardref18_Pairs.mono _ _ _
   | exact pollardref19_kind.mono _ _ _ _
   | exact pollardref19_partner.mono _ _ _
   | exact LeO.none _
   | refine LeO.ite ?_ ?_
   | refine LeO.bind ?_ (fun _ => ?_)
  ·
   intro y0 y1 y2 y3 y4 y5 y6 y7 y8 y9
   unfold pollardref19_Chunks.j1
   repeat' first
   | (with_reducible exact ih0 _ _ _ _ _ _ _ _ _)
   | (with_reducible exact ih1 _ _ _ _ _ _ _ _ _ _)
   | (with_reducible exact ih2 _ _ _ _ _ _ _ _ _ _)
   | (with_reducible exact ih3 _ _ _ _ _ _ _ _ _ _)
   | (with_reducible exact ih4 _ _ _ _ _ _ _ _ _ _)
   | (with_reducible exact ih5 _ _ _ _ _ _ _ _ _ _)
   | (with_reducible exact pollardref18_Pairs.mono _ _ _)
   | (with_reducible exact pollardref19_kind.mono _ _ _ _)
   | (with_reducible exact pollardref19_partner.mono _ _ _)
   | (with_reducible exact LeO.refl _)
   | (with_reducible exact LeO.none _)
   | (with_reducible refine LeO.ite ?_ ?_)
   | (with_reducible refine LeO.bind ?_ (fun _ => ?_))
   | exact ih0 _ _ _ _ _ _ _ _ _
   | exact ih1 _ _ _ _ _ _ _ _ _ _
   | exact ih2 _ _ _ _ _ _ _ _ _ _
   | exact ih3 _ _ _ _ _ _ _ _ _ _
   | exact ih4 _ _ _ _ _ _ _ _ _ _
   | exact ih5 _ _ _ _ _ _ _ _ _ _
   | exact pollardref18_Pairs.mono _ _ _
   | exact pollardref19_kind.mono _ _ _ _
   | exact pollardref19_partner.mono _ _ _
   | exact LeO.none _
   | refine LeO.ite ?_ ?_
   | refine LeO.bind ?_ (fun _ => ?_)
  ·
   intro y0 y1 y2 y3 y4 y5 y6 y7 y8 y9
   unfold pollardref19_Chunks.j3
   repeat' first
   | (with_reducible exact ih0 _ _ _ _ _ _ _ _ _)
   | (with_reducible exact ih1 _ _ _ _ _ _ _ _ _ _)
   | (with_reducible exact ih2 _ _ _ _ _ _ _ _ _ _)
   | (with_reducible exact ih3 _ _ _ _ _ _ _ _ _ _)
   | (with_reducible exact ih4 _ _ _ _ _ _ _ _ _ _)
   | (with_reducible exact ih5 _ _ _ _ _ _ _ _ _ _)
   | (with_reducible exact pollardref18_Pairs.mono _ _ _)
   | (with_reducible exact pollardref19_kind.mono _ _ _ _)
   | (with_reducible exact pollardref19_partner.mono _ _ _)
   | (with_reducible exact LeO.refl _)
   | (with_reducible exact LeO.none _)
   | (with_reducible refine LeO.ite ?_ ?_)
   | (with_reducible refine LeO.bind ?_ (fun _ => ?_))
   | exact ih0 _ _ _ _ _ _ _ _ _
   | exact ih1 _ _ _ _ _ _ _ _ _ _
   | exact ih2 _ _ _ _ _ _ _ _ _ _
   | exact ih3 _ _ _ _ _ _ _ _ _ _
   | exact ih4 _ _ _ _ _ _ _ _ _ _
   | exact ih5 _ _ _ _ _ _ _ _ _ _
   | exact pollardref18_Pairs.mono _ _ _
   | exact pollardref19_kind.mono _ _ _ _
   | exact pollardref19_partner.mono _ _ _
   | exact LeO.none _
   | refine LeO.ite ?_ ?_
   | refine LeO.bind ?_ (fun _ => ?_)
  ·
   intro y0 y1 y2 y3 y4 y5 y6 y7 y8 y9
   unfold pollardref19_Chunks.j5
   repeat' first
   | (with_reducible exact ih0 _ _ _ _ _ _ _ _ _)
   | (with_reducible exact ih1 _ _ _ _ _ _ _ _ _ _)
   | (with_reducible exact ih2 _ _ _ _ _ _ _ _ _ _)
   | (with_reducible exact ih3 _ _ _ _ _ _ _ _ _ _)
   | (with_reducible exact ih4 _ _ _ _ _ _ _ _ _ _)
   | (with_reducible exact ih5 _ _ _ _ _ _ _ _ _ _)
   | (with_reducible exact pollardref18_Pairs.mono _ _ _)
   | (with_reducible exact pollardref19_kind.mono _ _ _ _)
   | (with_reducible exact pollardref19_partner.mono _ _ _)
   | (with_reducible exact LeO.refl _)
   | (with_reducible exact LeO.none _)
   | (with_reducible refine LeO.ite ?_ ?_)
   | (with_reducible refine LeO.bind ?_ (fun _ => ?_))
   | exact ih0 _ _ _ _ _ _ _ _ _
   | exact ih1 _ _ _ _ _ _ _ _ _ _
   | exact ih2 _ _ _ _ _ _ _ _ _ _
   | exact ih3 _ _ _ _ _ _ _ _ _ _
   | exact ih4 _ _ _ _ _ _ _ _ _ _
   | exact ih5 _ _ _ _ _ _ _ _ _ _
   | exact pollardref18_Pairs.mono _ _ _
   | exact pollardref19_kind.mono _ _ _ _
   | exact pollardref19_partner.mono _ _ _
   | exact LeO.none _
   | refine LeO.ite ?_ ?_
   | refine LeO.bind ?_ (fun _ => ?_)
  ·
   intro y0 y1 y2 y3 y4 y5 y6 y7 y8 y9
   unfold pollardref19_Chunks.l2
   repeat' first
   | (with_reducible exact ih0 _ _ _ _ _ _ _ _ _)
   | (with_reducible exact ih1 _ _ _ _ _ _ _ _ _ _)
   | (with_reducible exact ih2 _ _ _ _ _ _ _ _ _ _)
   | (with_reducible exact ih3 _ _ _ _ _ _ _ _ _ _)
   | (with_reducible exact ih4 _ _ _ _ _ _ _ _ _ _)
   | (with_reducible exact ih5 _ _ _ _ _ _ _ _ _ _)
   | (with_reducible exact pollardref18_Pairs.mono _ _ _)
   | (with_reducible exact pollardref19_kind.mono _ _ _ _)
   | (with_reducible exact pollardref19_partner.mono _ _ _)
   | (with_reducible exact LeO.refl _)
   | (with_reducible exact LeO.none _)
   | (with_reducible refine LeO.ite ?_ ?_)
   | (with_reducible refine LeO.bind ?_ (fun _ => ?_))
   | exact ih0 _ _ _ _ _ _ _ _ _
   | exact ih1 _ _ _ _ _ _ _ _ _ _
   | exact ih2 _ _ _ _ _ _ _ _ _ _
   | exact ih3 _ _ _ _ _ _ _ _ _ _
   | exact ih4 _ _ _ _ _ _ _ _ _ _
   | exact ih5 _ _ _ _ _ _ _ _ _ _
   | exact pollardref18_Pairs.mono _ _ _
   | exact pollardref19_kind.mono _ _ _ _
   | exact pollardref19_partner.mono _ _ _
   | exact LeO.none _
   | refine LeO.ite ?_ ?_
   | refine LeO.bind ?_ (fun _ => ?_)
  ·
   intro y0 y1 y2 y3 y4 y5 y6 y7 y8 y9
   unfold pollardref19_Chunks.l1
   repeat' first
   | (with_reducible exact ih0 _ _ _ _ _ _ _ _ _)
   | (with_reducible exact ih1 _ _ _ _ _ _ _ _ _ _)
   | (with_reducible exact ih2 _ _ _ _ _ _ _ _ _ _)
   | (with_reducible exact ih3 _ _ _ _ _ _ _ _ _ _)
   | (with_reducible exact ih4 _ _ _ _ _ _ _ _ _ _)
   | (with_reducible exact ih5 _ _ _ _ _ _ _ _ _ _)
   | (with_reducible exact pollardref18_Pairs.mono _ _ _)
   | (with_reducible exact pollardref19_kind.mono _ _ _ _)
   | (with_reducible exact pollardref19_partner.mono _ _ _)
   | (with_reducible exact LeO.refl _)
   | (with_reducible exact LeO.none _)
   | (with_reducible refine LeO.ite ?_ ?_)
   | (with_reducible refine LeO.bind ?_ (fun _ => ?_))
   | exact ih0 _ _ _ _ _ _ _ _ _
   | exact ih1 _ _ _ _ _ _ _ _ _ _
   | exact ih2 _ _ _ _ _ _ _ _ _ _
   | exact ih3 _ _ _ _ _ _ _ _ _ _
   | exact ih4 _ _ _ _ _ _ _ _ _ _
   | exact ih5 _ _ _ _ _ _ _ _ _ _
   | exact pollardref18_Pairs.mono _ _ _
   | exact pollardref19_kind.mono _ _ _ _
   | exact pollardref19_partner.mono _ _ _
   | exact LeO.none _
   | refine LeO.ite ?_ ?_
   | refine LeO.bind ?_ (fun _ => ?_)
theorem pollardref19_Chunks.mono : ∀ a0 a1 a2 k, LeO (pollardref19_Chunks.f k a0 a1 a2) (pollardref19_Chunks.f (k + 1) a0 a1 a2) := by
 intro a0 a1 a2 k
 obtain ⟨ih0, ih1, ih2, ih3, ih4, ih5⟩ := pollardref19_Chunks.mono_l k
 unfold pollardref19_Chunks.f
 repeat' first
  | (with_reducible exact ih0 _ _ _ _ _ _ _ _ _)
  | (with_reducible exact ih1 _ _ _ _ _ _ _ _ _ _)
  | (with_reducible exact ih2 _ _ _ _ _ _ _ _ _ _)
  | (with_reducible exact ih3 _ _ _ _ _ _ _ _ _ _)
  | (with_reducible exact ih4 _ _ _ _ _ _ _ _ _ _)
  | (with_reducible exact ih5 _ _ _ _ _ _ _ _ _ _)
  | (with_reducible exact pollardref18_Pairs.mono _ _ _)
  | (with_reducible exact pollardref19_kind.mono _ _ _ _)
  | (with_reducible exact pollardref19_partner.mono _ _ _)
  | (with_reducible exact LeO.refl _)
  | (with_reducible exact LeO.none _)
  | (with_reducible refine LeO.ite ?_ ?_)
  | (with_reducible refine LeO.bind ?_ (fun _ => ?_))
  | exact ih0 _ _ _ _ _ _ _ _ _
  | exact ih1 _ _ _ _ _ _ _ _ _ _
  | exact ih2 _ _ _ _ _ _ _ _ _ _
  | exact ih3 _ _ _ _ _ _ _ _ _ _
  | exact ih4 _ _ _ _ _ _ _ _ _ _
  | exact ih5 _ _ _ _ _ _ _ _ _ _
  | exact pollardref18_Pairs.mono _ _ _
  | exact pollardref19_kind.mono _ _ _ _
  | exact pollardref19_partner.mono _ _ _
  | exact LeO.none _
  | refine LeO.ite ?_ ?_
  | refine LeO.bind ?_ (fun _ => ?_)
def pollardref19_Chunks.T14 : Bool × List (List Nat × List Nat) := (true, [([], []), ([], []), ([], []), ([0, 1, 2], [0, 1, 2]), ([], []), ([], []), ([], []), ([4, 5, 6], [4, 5, 6]), ([], []), ([], []), ([], []), ([8, 9, 10], [8, 9, 10]), ([3, 7, 11], [3, 7, 11]), ([12, 12, 0, 1, 2, 3, 4, 5, 6, 7, 8, 9, 10, 11, 12], [12])])
def pollardref19_Chunks.B14 : List Nat := [0, 0, 0, 7, 0, 0, 0, 112, 0, 0, 0, 1792, 4095, 8191]
theorem pollardref19_Chunks.tab14 : rtab .any (opsOf Tryd.f11 14) = pollardref19_Chunks.T14 := by kernel_rfl
theorem pollardref19_Chunks.bits14 : waitsOk pollardref19_Chunks.T14.2 pollardref19_Chunks.B14 = true := by kernel_rfl
def pollardref19_Chunks.T15 : Bool × List (List Nat × List Nat) := (true, [([], []), ([], []), ([], []), ([], []), ([], []), ([2, 3, 4], [2, 3, 4]), ([], []), ([], []), ([], []), ([6, 7, 8], [6, 7, 8]), ([], []), ([], []), ([], []), ([10, 11, 12], [10, 11, 12]), ([1, 5, 9, 13], [1, 5, 9, 13]), ([14], [14]), ([0, 15], [0, 15]), ([16, 16, 0, 1, 2, 3, 4, 5, 6, 7, 8, 9, 10, 11, 12, 13, 14, 15, 16], [0, 16])])
def pollardref19_Chunks.B15 : List Nat := [0, 0, 0, 0, 0, 28, 0, 0, 0, 448, 0, 0, 0, 7168, 16382, 32766, 65535, 131071]
theorem pollardref19_Chunks.tab15 : rtab .any (opsOf Tryd.f11 15) = pollardref19_Chunks.T15 := by kernel_rfl
theorem pollardref19_Chunks.bits15 : waitsOk pollardref19_Chunks.T15.2 pollardref19_Chunks.B15 = true := by kernel_rfl
set_option maxHeartbeats 8000000 in
set_option maxRecDepth 100000 in
theorem pollardref19_Chunks.calls (k : Nat) (P0_ : Nat → Prop) (A0 : Option Addr) (c0 : Nat) (l0 : List ByteArray) (P1_ : Nat → Prop) (A1 : Option Addr) (c1 : Nat) (l1 : List ByteArray) (P2_ : Nat → Prop) (A2 : Option Addr) (c2 : Nat) (l2 : List ByteArray) (r : List (S33)) (w : World) (hs0 : Kd.V Kd.string 9 w w.heap.size (fun k_ => P0_ k_) (.slice A0 l0.length c0) l0) (hs1 : Kd.V Kd.string 9 w w.heap.size (fun k_ => P1_ k_) (.slice A1 l1.length c1) l1) (hs2 : Kd.V Kd.string 9 w w.heap.size (fun k_ => P2_ k_) (.slice A2 l2.length c2) l2) (h : pollardref19_Chunks.f k l0 l1 l2 = some r) :
 Calls Tryd.prog 11 #[.slice A0 l0.length c0, .slice A1 l1.length c1, .slice A2 l2.length c2] w fun e w' => ∃ v0_ : Value, e = .returned (v0_) ∧ Kd.N k33 33 w' w.heap.size (fun k_ => ((P0_ k_ ∨ P1_ k_ ∨ P2_ k_) ∨ w.heap.size ≤ k_)) v0_ r ∧ Below w.heap.size w w' := by
 have hu33 := Tryd.underlying33
 have HO0 := Aside0.mk (show Kd.V Kd.string 9 w w.heap.size (fun k_ => ((P0_ k_ ∨ P1_ k_ ∨ P2_ k_) ∨ w.heap.size ≤ k_)) (.slice A0 l0.length c0) l0 from Kd.V_mono hs0 (fun k_ hk => .inl (.inl hk)))
 have HO1 := Aside0.mk (show Kd.V Kd.string 9 w w.heap.size (fun k_ => ((P0_ k_ ∨ P1_ k_ ∨ P2_ k_) ∨ w.heap.size ≤ k_)) (.slice A1 l1.length c1) l1 from Kd.V_mono hs1 (fun k_ hk => .inl (.inr (.inl hk))))
 have HO2 := Aside0.mk (show Kd.V Kd.string 9 w w.heap.size (fun k_ => ((P0_ k_ ∨ P1_ k_ ∨ P2_ k_) ∨ w.heap.size ≤ k_)) (.slice A2 l2.length c2) l2 from Kd.V_mono hs2 (fun k_ hk => .inl (.inr (.inr hk))))
 have HB := Aside0.mk (Below.refl w.heap.size w)
 have H : ((pollardref18_Pairs.f k l0 l1).bind fun t236 => ((pollardref18_Pairs.f k l0 l2).bind fun t239 => (pollardref19_Chunks.l0 k l0 l1 l2 t236 t239 (([] : List (S33))) 0 0 0))) = some r := h
 clear h
 replace H := Option.bind_eq_some_iff.mp H
 obtain ⟨t236, A40, H⟩ := H
 replace H : ((pollardref18_Pairs.f k l0 l2).bind fun t239 => (pollardref19_Chunks.l0 k l0 l1 l2 t236 t239 (([] : List (S33))) 0 0 0)) = some r := H
 have A4 := Aside0.mk A40
 clear A40
 replace H := Option.bind_eq_some_iff.mp H
 obtain ⟨t239, A50, H⟩ := H
 replace H : (pollardref19_Chunks.l0 k l0 l1 l2 t236 t239 (([] : List (S33))) 0 0 0) = some r := H
 have A5 := Aside0.mk A50
 clear A50
 obtain ⟨y242, hy242⟩ : ∃ y_ : List (S33), y_ = (([] : List (S33))) := ⟨_, rfl⟩
 replace H : (pollardref19_Chunks.l0 k l0 l1 l2 t236 t239 y242 0 0 0) = some r := by first | (rw [hy242]; with_reducible exact H) | (have H2_ := (Option.bind_some _ _).symm.trans H; rw [hy242]; with_reducible exact H2_) | (have H2_ := (Option.bind_some _ _).symm.trans H; with_reducible exact H2_) | with_reducible exact H | (rw [hy242]; exact H) | exact H
 have Ny242 := Aside0.mk hy242
 clear hy242
 have H' := Aside0.mk H
 clear H
 go_enter Tryd.func11, Tryd.ntmps11
 go_wp2_with (first | ((with_reducible refine gate_callee (f := 21) rfl ?_); refine goesL_ (some 20) rfl rfl Tryd.func21 (by kernel_rfl) rfl #[.slice A0 l0.length c0, .slice A1 l1.length c1] rfl (by (try simp only [List.map_toArray, List.map_cons, List.map_nil]); first | done | rfl | (simp only [List.length_drop, List.length_take]; rfl)) ?_; (with_reducible refine (pollardref18_Pairs.calls k _ _ l0 _ _ l1 t236 _ ?side1 ?side2 ?side3 ?side4 A4.out).mono ?_); (case side1 => repeat (first | exact (Kd.V_reads' HO0.out).2.2 | (with_reducible refine Kd.C_alloc ?_ _) | (with_reducible refine Kd.C_drewN ?_ _) | (with_reducible refine Kd.C_drew ?_))); (case side2 => exact (Kd.V_reads' HO0.out).2.1); (case side3 => repeat (first | exact (Kd.V_reads' HO1.out).2.2 | (with_reducible refine Kd.C_alloc ?_ _) | (with_reducible refine Kd.C_drewN ?_ _) | (with_reducible refine Kd.C_drew ?_))); (case side4 => exact (Kd.V_reads' HO1.out).2.1); rintro e w6 ⟨v237, rfl, ho0, hb⟩; refine ⟨_, rfl, ?_⟩; have n0_ := Aside0.mk (Kd.V_elder' (by (with_reducible repeat (first | apply Kd.V_alloc | apply Kd.V_drewN | apply Kd.V_drew)); exact HO0.out) (Kd.R_base ho0) hb); have n1_ := Aside0.mk (Kd.V_elder' (by (with_reducible repeat (first | apply Kd.V_alloc | apply Kd.V_drewN | apply Kd.V_drew)); exact HO1.out) (Kd.R_base ho0) hb); have n2_ := Aside0.mk (Kd.V_elder' (by (with_reducible repeat (first | apply Kd.V_alloc | apply Kd.V_drewN | apply Kd.V_drew)); exact HO2.out) (Kd.R_base ho0) hb); have n3_ := Aside0.mk (Kd.R_lower (Kd.R_newM (M := fun k_ => (w.heap.size ≤ k_)) ho0 (below_size (by repeat (first | (with_reducible first | exact HB.out | apply below_alloc | apply pw_below_drewN | apply below_drew1) | exact HB.out))) (fun k_ h_ => h_)) (below_size (by repeat (first | (with_reducible first | exact HB.out | apply below_alloc | apply pw_below_drewN | apply below_drew1) | exact HB.out)))); have n4_ := Aside0.mk (below_step (by repeat (first | (with_reducible first | exact HB.out | apply below_alloc | apply pw_below_drewN | apply below_drew1) | exact HB.out)) hb); clear HO0; clear HO1; clear HO2; clear HB; have HO0 := n0_; have HO1 := n1_; have HO2 := n2_; have HO238 := n3_; have HB := n4_; clear n0_ n1_ n2_ n3_ n4_; (try clear hb); (try clear hb2); (try clear hk); (try clear hi); (try clear ho0)) | ((with_reducible refine gate_callee (f := 21) rfl ?_); refine goesL_ (some 23) rfl rfl Tryd.func21 (by kernel_rfl) rfl #[.slice A0 l0.length c0, .slice A2 l2.length c2] rfl (by (try simp only [List.map_toArray, List.map_cons, List.map_nil]); first | done | rfl | (simp only [List.length_drop, List.length_take]; rfl)) ?_; (with_reducible refine (pollardref18_Pairs.calls k _ _ l0 _ _ l2 t239 _ ?side1 ?side2 ?side3 ?side4 A5.out).mono ?_); (case side1 => repeat (first | exact (Kd.V_reads' HO0.out).2.2 | (with_reducible refine Kd.C_alloc ?_ _) | (with_reducible refine Kd.C_drewN ?_ _) | (with_reducible refine Kd.C_drew ?_))); (case side2 => exact (Kd.V_reads' HO0.out).2.1); (case side3 => repeat (first | exact (Kd.V_reads' HO2.out).2.2 | (with_reducible refine Kd.C_alloc ?_ _) | (with_reducible refine Kd.C_drewN ?_ _) | (with_reducible refine Kd.C_drew ?_))); (case side4 => exact (Kd.V_reads' HO2.out).2.1); rintro e w7 ⟨v240, rfl, ho0, hb⟩; refine ⟨_, rfl, ?_⟩; have n0_ := Aside0.mk (Kd.V_elder' (by (with_reducible repeat (first | apply Kd.V_alloc | apply Kd.V_drewN | apply Kd.V_drew)); exact HO0.out) (Kd.R_base ho0) hb); have n1_ := Aside0.mk (Kd.V_elder' (by (with_reducible repeat (first | apply Kd.V_alloc | apply Kd.V_drewN | apply Kd.V_drew)); exact HO1.out) (Kd.R_base ho0) hb); have n2_ := Aside0.mk (Kd.V_elder' (by (with_reducible repeat (first | apply Kd.V_alloc | apply Kd.V_drewN | apply Kd.V_drew)); exact HO2.out) (Kd.R_base ho0) hb); have n3_ := Aside0.mk (Kd.R_elder' (by (with_reducible repeat (first | apply Kd.R_alloc | apply Kd.R_drewN | apply Kd.R_drew)); exact HO238.out) (Kd.R_base ho0) hb); have n4_ := Aside0.mk (Kd.R_lower (Kd.R_new' (Kd.R_newM (M := fun k_ => (w.heap.size ≤ k_)) ho0 (below_size (by repeat (first | (with_reducible first | exact HB.out | apply below_alloc | apply pw_below_drewN | apply below_drew1) | exact HB.out))) (fun k_ h_ => h_)) (Kd.R_lt (by (with_reducible repeat (first | apply Kd.R_alloc | apply Kd.R_drewN | apply Kd.R_drew)); exact HO238.out))) (below_size (by repeat (first | (with_reducible first | exact HB.out | apply below_alloc | apply pw_below_drewN | apply below_drew1) | exact HB.out)))); have n5_ := Aside0.mk (below_step (by repeat (first | (with_reducible first | exact HB.out | apply below_alloc | apply pw_below_drewN | apply below_drew1) | exact HB.out)) hb); clear HO0; clear HO1; clear HO2; clear HO238; clear HB; have HO0 := n0_; have HO1 := n1_; have HO2 := n2_; have HO238 := n3_; have HO241 := n4_; have HB := n5_; clear n0_ n1_ n2_ n3_ n4_ n5_; (try clear hb); (try clear hb2); (try clear hk); (try clear hi); (try clear ho0)) | ((with_reducible refine gate_dst (N := 24) rfl ?_); (try (refine gate_guard (by rfl) ?_; dsimp only)); refine Kd.N_lit k33 _ 33 ?hg (N' := 24) ?hd (xs := ([] : List (S33))) (inner := []) (ok := (fun k_ => ((P0_ k_ ∨ P1_ k_ ∨ P2_ k_) ∨ w.heap.size ≤ k_) ∧ some k_ ≠ (v237 : Value).ownBlock ∧ some k_ ≠ (v240 : Value).ownBlock)) (okp := (fun k_ => ((P0_ k_ ∨ P1_ k_ ∨ P2_ k_) ∨ w.heap.size ≤ k_) ∧ some k_ ≠ (v237 : Value).ownBlock ∧ some k_ ≠ (v240 : Value).ownBlock)) ?hr ?hp (fun _ hk => hk) ((show ∀ k_, w7.heap.size ≤ k_ → (fun k_ => ((P0_ k_ ∨ P1_ k_ ∨ P2_ k_) ∨ w.heap.size ≤ k_) ∧ some k_ ≠ (v237 : Value).ownBlock ∧ some k_ ≠ (v240 : Value).ownBlock) k_ from fun k_ hk => ⟨(.inr (Nat.le_trans (below_size (by repeat (first | (with_reducible first | exact HB.out | apply below_alloc | apply pw_below_drewN | apply below_drew1) | exact HB.out))) hk)), Kd.fresh' (Kd.R_lt (by (with_reducible repeat (first | apply Kd.R_alloc | apply Kd.R_drewN | apply Kd.R_drew)); exact HO238.out)) k_ hk, Kd.fresh' (Kd.R_lt (by (with_reducible repeat (first | apply Kd.R_alloc | apply Kd.R_drewN | apply Kd.R_drew)); exact HO241.out)) k_ hk⟩) _ (Nat.le_refl _)) (Below.refl _ _) (Nat.le_refl _) (by simp) ?_; (case hd => rfl); (case hg => rfl); (case hr => first | (go_simp; done) | (go_simp; rfl) | (go_simp; simp only [show ∀ x_ : Int, IntKind.u8.wrap x_ = x_ % 256 from fun _ => rfl, Int.add_emod_emod, Int.emod_add_emod, Int.emod_emod]; done)); (case hp => exact (Reps.none _ _)); intro v243 w8 ho9 hb hg_ hnew_; clear hg_ hnew_; (first | rw [← Ny242.out] at ho9 | (simp only [Int.reduceToNat] at ho9; rw [← Ny242.out] at ho9)); have n0_ := Aside0.mk (Kd.V_elder' (by (with_reducible repeat (first | apply Kd.V_alloc | apply Kd.V_drewN | apply Kd.V_drew)); exact HO0.out) (Kd.N_base ho9) hb); have n1_ := Aside0.mk (Kd.V_elder' (by (with_reducible repeat (first | apply Kd.V_alloc | apply Kd.V_drewN | apply Kd.V_drew)); exact HO1.out) (Kd.N_base ho9) hb); have n2_ := Aside0.mk (Kd.V_elder' (by (with_reducible repeat (first | apply Kd.V_alloc | apply Kd.V_drewN | apply Kd.V_drew)); exact HO2.out) (Kd.N_base ho9) hb); have n3_ := Aside0.mk (Kd.R_below (by (with_reducible repeat (first | apply Kd.R_alloc | apply Kd.R_drewN | apply Kd.R_drew)); exact HO238.out) hb); have n4_ := Aside0.mk (Kd.R_below (by (with_reducible repeat (first | apply Kd.R_alloc | apply Kd.R_drewN | apply Kd.R_drew)); exact HO241.out) hb); have n5_ := Aside0.mk (Kd.N_lower ho9 (below_size (by repeat (first | (with_reducible first | exact HB.out | apply below_alloc | apply pw_below_drewN | apply below_drew1) | exact HB.out)))); have n6_ := Aside0.mk (below_step (by repeat (first | (with_reducible first | exact HB.out | apply below_alloc | apply pw_below_drewN | apply below_drew1) | exact HB.out)) hb); clear HO0; clear HO1; clear HO2; clear HO238; clear HO241; clear HB; have HO0 := n0_; have HO1 := n1_; have HO2 := n2_; have HO238 := n3_; have HO241 := n4_; have HO244 := n5_; have HB := n6_; clear n0_ n1_ n2_ n3_ n4_ n5_ n6_; clear hb ho9))
 go_loopg [9, 10, 11, 12] k (fun kq v9 v10 v11 v12 w' => ∃ (x9_1 : List (S33)) (x10_1 : Int) (x11_1 : Int) (x12_1 : Int), v10 = .int .i64 x10_1 ∧ v11 = .int .i64 x11_1 ∧ v12 = .int .i64 x12_1 ∧ Aside0 (pollardref19_Chunks.l0 kq l0 l1 l2 t236 t239 x9_1 x10_1 x11_1 x12_1 = some r) ∧ Aside0 (kq ≤ k) ∧ Aside0 (Kd.V Kd.string 9 w' w.heap.size (fun k_ => ((P0_ k_ ∨ P1_ k_ ∨ P2_ k_) ∨ w.heap.size ≤ k_) ∧ some k_ ≠ (v237 : Value).ownBlock ∧ some k_ ≠ (v240 : Value).ownBlock ∧ some k_ ≠ (v9 : Value).ownBlock) (.slice A0 l0.length c0) l0) ∧ Aside0 (Kd.V Kd.string 9 w' w.heap.size (fun k_ => ((P0_ k_ ∨ P1_ k_ ∨ P2_ k_) ∨ w.heap.size ≤ k_) ∧ some k_ ≠ (v237 : Value).ownBlock ∧ some k_ ≠ (v240 : Value).ownBlock ∧ some k_ ≠ (v9 : Value).ownBlock) (.slice A1 l1.length c1) l1) ∧ Aside0 (Kd.V Kd.string 9 w' w.heap.size (fun k_ => ((P0_ k_ ∨ P1_ k_ ∨ P2_ k_) ∨ w.heap.size ≤ k_) ∧ some k_ ≠ (v237 : Value).ownBlock ∧ some k_ ≠ (v240 : Value).ownBlock ∧ some k_ ≠ (v9 : Value).ownBlock) (.slice A2 l2.length c2) l2) ∧ Aside0 (Kd.R k70 70 w' w.heap.size (fun k_ => (w.heap.size ≤ k_) ∧ some k_ ≠ (v240 : Value).ownBlock) v237 t236) ∧ Aside0 (Kd.R k70 70 w' w.heap.size (fun k_ => (w.heap.size ≤ k_) ∧ some k_ ≠ (v237 : Value).ownBlock) v240 t239) ∧ Aside0 (Kd.N k33 33 w' w.heap.size (fun k_ => ((P0_ k_ ∨ P1_ k_ ∨ P2_ k_) ∨ w.heap.size ≤ k_) ∧ some k_ ≠ (v237 : Value).ownBlock ∧ some k_ ≠ (v240 : Value).ownBlock) v9 x9_1) ∧ Aside0 (Below w.heap.size w w'))
 case atStart => exact ⟨(y242), (0), (0), (0), (by first | rfl | (simp; done) | (simp [*]; done)), (by first | rfl | (simp; done) | (simp [*]; done)), (by first | rfl | (simp; done) | (simp [*]; done)), H', ⟨Nat.le_refl _⟩, ⟨by (with_reducible repeat (first | apply Kd.V_alloc | apply Kd.V_drewN | apply Kd.V_drew)); exact Kd.V_mono HO0.out (fun _ hk => ⟨hk.1.1.1, ⟨hk.1.1.2, ⟨hk.1.2, hk.2⟩⟩⟩)⟩, ⟨by (with_reducible repeat (first | apply Kd.V_alloc | apply Kd.V_drewN | apply Kd.V_drew)); exact Kd.V_mono HO1.out (fun _ hk => ⟨hk.1.1.1, ⟨hk.1.1.2, ⟨hk.1.2, hk.2⟩⟩⟩)⟩, ⟨by (with_reducible repeat (first | apply Kd.V_alloc | apply Kd.V_drewN | apply Kd.V_drew)); exact Kd.V_mono HO2.out (fun _ hk => ⟨hk.1.1.1, ⟨hk.1.1.2, ⟨hk.1.2, hk.2⟩⟩⟩)⟩, ⟨by (with_reducible repeat (first | apply Kd.R_alloc | apply Kd.R_drewN | apply Kd.R_drew)); exact Kd.R_mono HO238.out (fun _ hk => ⟨hk.1.1, hk.2⟩)⟩, ⟨by (with_reducible repeat (first | apply Kd.R_alloc | apply Kd.R_drewN | apply Kd.R_drew)); exact Kd.R_mono HO241.out (fun _ hk => ⟨hk.1.1, hk.2⟩)⟩, ⟨by (with_reducible repeat (first | apply Kd.N_alloc | apply Kd.N_drewN | apply Kd.N_drew)); exact HO244.out⟩, ⟨by repeat (first | (with_reducible first | exact HB.out | apply below_alloc | apply pw_below_drewN | apply below_drew1) | exact HB.out)⟩⟩
 case round =>
  clear H'
  try clear c1
  try clear c2
  try clear p2
  obtain ⟨x9_1, x10_1, x11_1, x12_1, rfl, rfl, rfl, HA, HK1, HO_0, HO_1, HO_2, HO_7, HO_8, HO_9, HB⟩ := hrel
  cases gk with
  | zero => exact absurd HA.out (by simp [pollardref19_Chunks.l0])
  | succ k1 =>
   have H := HA.out
   clear HA
   simp only [pollardref19_Chunks.l0] at H
   have HC10 := Aside0.mk H
   clear H
   go_upto_region 3 with (fail)
   go_cut [40] (fun v40 wc => ∃ (kq : Nat) (x40_9 : Bool), v40 = .bool x40_9 ∧ Aside0 (pollardref19_Chunks.j1 kq l0 l1 l2 t236 t239 x9_1 x10_1 x11_1 x12_1 x40_9 = some r) ∧ Aside0 (kq ≤ k1) ∧ Aside0 (Kd.V Kd.string 9 wc w.heap.size (fun k_ => ((P0_ k_ ∨ P1_ k_ ∨ P2_ k_) ∨ w.heap.size ≤ k_) ∧ some k_ ≠ (v237 : Value).ownBlock ∧ some k_ ≠ (v240 : Value).ownBlock ∧ some k_ ≠ (u9 : Value).ownBlock) (.slice A0 l0.length c0) l0) ∧ Aside0 (Kd.V Kd.string 9 wc w.heap.size (fun k_ => ((P0_ k_ ∨ P1_ k_ ∨ P2_ k_) ∨ w.heap.size ≤ k_) ∧ some k_ ≠ (v237 : Value).ownBlock ∧ some k_ ≠ (v240 : Value).ownBlock ∧ some k_ ≠ (u9 : Value).ownBlock) (.slice A1 l1.length c1) l1) ∧ Aside0 (Kd.V Kd.string 9 wc w.heap.size (fun k_ => ((P0_ k_ ∨ P1_ k_ ∨ P2_ k_) ∨ w.heap.size ≤ k_) ∧ some k_ ≠ (v237 : Value).ownBlock ∧ some k_ ≠ (v240 : Value).ownBlock ∧ some k_ ≠ (u9 : Value).ownBlock) (.slice A2 l2.length c2) l2) ∧ Aside0 (Kd.R k70 70 wc w.heap.size (fun k_ => (w.heap.size ≤ k_) ∧ some k_ ≠ (v240 : Value).ownBlock) v237 t236) ∧ Aside0 (Kd.R k70 70 wc w.heap.size (fun k_ => (w.heap.size ≤ k_) ∧ some k_ ≠ (v237 : Value).ownBlock) v240 t239) ∧ Aside0 (Kd.N k33 33 wc w.heap.size (fun k_ => ((P0_ k_ ∨ P1_ k_ ∨ P2_ k_) ∨ w.heap.size ≤ k_) ∧ some k_ ≠ (v237 : Value).ownBlock ∧ some k_ ≠ (v240 : Value).ownBlock) u9 x9_1) ∧ Aside0 (Below w.heap.size w wc))
   case first =>
    have H := HC10.out
    clear HC10
    by_cases c11 : x10_1 < (l0.length : Int)
    · rw [if_pos c11] at H
      have c11b0 : decide (x10_1 < (l0.length : Int)) = true := decide_eq_true c11
      clear c11
      (first | rw [c11b0] | (simp only [i64_w, i32_w]; rw [c11b0]) | skip)
      have H' := Aside0.mk H
      clear H
      go_wp2
      go_meet
      case rel => exact ⟨_, (true), (by first | rfl | (simp; done) | (simp [*]; done)), H', ⟨by have := HK1.out; first | omega | exact Nat.le_refl _⟩, ⟨by (with_reducible repeat (first | apply Kd.V_alloc | apply Kd.V_drewN | apply Kd.V_drew)); exact HO_0.out⟩, ⟨by (with_reducible repeat (first | apply Kd.V_alloc | apply Kd.V_drewN | apply Kd.V_drew)); exact HO_1.out⟩, ⟨by (with_reducible repeat (first | apply Kd.V_alloc | apply Kd.V_drewN | apply Kd.V_drew)); exact HO_2.out⟩, ⟨by (with_reducible repeat (first | apply Kd.R_alloc | apply Kd.R_drewN | apply Kd.R_drew)); exact HO_7.out⟩, ⟨by (with_reducible repeat (first | apply Kd.R_alloc | apply Kd.R_drewN | apply Kd.R_drew)); exact HO_8.out⟩, ⟨by (with_reducible repeat (first | apply Kd.N_alloc | apply Kd.N_drewN | apply Kd.N_drew)); exact HO_9.out⟩, ⟨by repeat (first | (with_reducible first | exact HB.out | apply below_alloc | apply pw_below_drewN | apply below_drew1) | exact HB.out)⟩⟩
    ·
     rw [if_neg c11] at H
     have c11b0 : decide (x10_1 < (l0.length : Int)) = false := decide_eq_false c11
     clear c11
     (first | rw [c11b0] | (simp only [i64_w, i32_w]; rw [c11b0]) | skip)
     by_cases c12 : x11_1 < (l1.length : Int)
     · rw [if_pos c12] at H
       have c12b0 : decide (x11_1 < (l1.length : Int)) = true := decide_eq_true c12
       clear c12
       have H' := Aside0.mk H
       clear H
       go_wp2
       go_meet
       case rel => exact ⟨_, (true), (by first | rfl | (simp; done) | (simp [*]; done)), H', ⟨by have := HK1.out; first | omega | exact Nat.le_refl _⟩, ⟨by (with_reducible repeat (first | apply Kd.V_alloc | apply Kd.V_drewN | apply Kd.V_drew)); exact HO_0.out⟩, ⟨by (with_reducible repeat (first | apply Kd.V_alloc | apply Kd.V_drewN | apply Kd.V_drew)); exact HO_1.out⟩, ⟨by (with_reducible repeat (first | apply Kd.V_alloc | apply Kd.V_drewN | apply Kd.V_drew)); exact HO_2.out⟩, ⟨by (with_reducible repeat (first | apply Kd.R_alloc | apply Kd.R_drewN | apply Kd.R_drew)); exact HO_7.out⟩, ⟨by (with_reducible repeat (first | apply Kd.R_alloc | apply Kd.R_drewN | apply Kd.R_drew)); exact HO_8.out⟩, ⟨by (with_reducible repeat (first | apply Kd.N_alloc | apply Kd.N_drewN | apply Kd.N_drew)); exact HO_9.out⟩, ⟨by repeat (first | (with_reducible first | exact HB.out | apply below_alloc | apply pw_below_drewN | apply below_drew1) | exact HB.out)⟩⟩
     · rw [if_neg c12] at H
       have c12b0 : decide (x11_1 < (l1.length : Int)) = false := decide_eq_false c12
       clear c12
       have H' := Aside0.mk H
       clear H
       go_wp2
       go_meet
       case rel => exact ⟨_, (decide (x12_1 < (l2.length : Int))), (by first | rfl | (simp; done) | (simp [*]; done)), H', ⟨by have := HK1.out; first | omega | exact Nat.le_refl _⟩, ⟨by (with_reducible repeat (first | apply Kd.V_alloc | apply Kd.V_drewN | apply Kd.V_drew)); exact HO_0.out⟩, ⟨by (with_reducible repeat (first | apply Kd.V_alloc | apply Kd.V_drewN | apply Kd.V_drew)); exact HO_1.out⟩, ⟨by (with_reducible repeat (first | apply Kd.V_alloc | apply Kd.V_drewN | apply Kd.V_drew)); exact HO_2.out⟩, ⟨by (with_reducible repeat (first | apply Kd.R_alloc | apply Kd.R_drewN | apply Kd.R_drew)); exact HO_7.out⟩, ⟨by (with_reducible repeat (first | apply Kd.R_alloc | apply Kd.R_drewN | apply Kd.R_drew)); exact HO_8.out⟩, ⟨by (with_reducible repeat (first | apply Kd.N_alloc | apply Kd.N_drewN | apply Kd.N_drew)); exact HO_9.out⟩, ⟨by repeat (first | (with_reducible first | exact HB.out | apply below_alloc | apply pw_below_drewN | apply below_drew1) | exact HB.out)⟩⟩
   case rest =>
    clear HC10
    try clear c1
    try clear c2
    try clear p2
    try clear c11
    try clear c11b0
    try clear c12
    try clear c12b0
    try clear p2
    obtain ⟨kq, x40_9, rfl, HA, HJ9, HO_0, HO_1, HO_2, HO_7, HO_8, HO_9, HB⟩ := hcut
    cases kq with
    | zero => exact absurd HA.out (by simp [pollardref19_Chunks.j1])
    | succ kj9 =>
     have H := HA.out
     clear HA
     simp only [pollardref19_Chunks.j1] at H
     by_cases c13 : x40_9 = true
     ·
      subst c13
      have H1 : (pollardref19_Chunks.l1 kj9 l0 l1 l2 t236 t239 x9_1 x10_1 x11_1 x12_1 0) = some r := by rw [if_pos rfl] at H; exact H
      clear H
      have H := H1
      clear H1
      have HC14 := Aside0.mk H
      clear H
      go_upto_block 2 with (fail)
      go_cut [13] (fun v13 wc => ∃ (kq : Nat) (x13_13 : Int), v13 = .int .i64 x13_13 ∧ Aside0 (pollardref19_Chunks.j3 kq l0 l1 l2 t236 t239 x9_1 x10_1 x11_1 x12_1 x13_13 = some r) ∧ Aside0 (kq ≤ kj9) ∧ Aside0 (Kd.V Kd.string 9 wc w.heap.size (fun k_ => ((P0_ k_ ∨ P1_ k_ ∨ P2_ k_) ∨ w.heap.size ≤ k_) ∧ some k_ ≠ (v237 : Value).ownBlock ∧ some k_ ≠ (v240 : Value).ownBlock ∧ some k_ ≠ (u9 : Value).ownBlock) (.slice A0 l0.length c0) l0) ∧ Aside0 (Kd.V Kd.string 9 wc w.heap.size (fun k_ => ((P0_ k_ ∨ P1_ k_ ∨ P2_ k_) ∨ w.heap.size ≤ k_) ∧ some k_ ≠ (v237 : Value).ownBlock ∧ some k_ ≠ (v240 : Value).ownBlock ∧ some k_ ≠ (u9 : Value).ownBlock) (.slice A1 l1.length c1) l1) ∧ Aside0 (Kd.V Kd.string 9 wc w.heap.size (fun k_ => ((P0_ k_ ∨ P1_ k_ ∨ P2_ k_) ∨ w.heap.size ≤ k_) ∧ some k_ ≠ (v237 : Value).ownBlock ∧ some k_ ≠ (v240 : Value).ownBlock ∧ some k_ ≠ (u9 : Value).ownBlock) (.slice A2 l2.length c2) l2) ∧ Aside0 (Kd.R k70 70 wc w.heap.size (fun k_ => (w.heap.size ≤ k_) ∧ some k_ ≠ (v240 : Value).ownBlock) v237 t236) ∧ Aside0 (Kd.R k70 70 wc w.heap.size (fun k_ => (w.heap.size ≤ k_) ∧ some k_ ≠ (v237 : Value).ownBlock) v240 t239) ∧ Aside0 (Kd.N k33 33 wc w.heap.size (fun k_ => ((P0_ k_ ∨ P1_ k_ ∨ P2_ k_) ∨ w.heap.size ≤ k_) ∧ some k_ ≠ (v237 : Value).ownBlock ∧ some k_ ≠ (v240 : Value).ownBlock) u9 x9_1) ∧ Aside0 (Below w.heap.size w wc))
      case first =>
       have H := HC14.out
       clear HC14
       have H' := Aside0.mk H
       clear H
       go_wp2
       go_loopg [13] kj9 (fun kq v13 w' => ∃ (x13_3 : Int), v13 = .int .i64 x13_3 ∧ Aside0 (pollardref19_Chunks.l1 kq l0 l1 l2 t236 t239 x9_1 x10_1 x11_1 x12_1 x13_3 = some r) ∧ Aside0 (kq ≤ kj9) ∧ Aside0 (Kd.V Kd.string 9 w' w.heap.size (fun k_ => ((P0_ k_ ∨ P1_ k_ ∨ P2_ k_) ∨ w.heap.size ≤ k_) ∧ some k_ ≠ (v237 : Value).ownBlock ∧ some k_ ≠ (v240 : Value).ownBlock ∧ some k_ ≠ (u9 : Value).ownBlock) (.slice A0 l0.length c0) l0) ∧ Aside0 (Kd.V Kd.string 9 w' w.heap.size (fun k_ => ((P0_ k_ ∨ P1_ k_ ∨ P2_ k_) ∨ w.heap.size ≤ k_) ∧ some k_ ≠ (v237 : Value).ownBlock ∧ some k_ ≠ (v240 : Value).ownBlock ∧ some k_ ≠ (u9 : Value).ownBlock) (.slice A1 l1.length c1) l1) ∧ Aside0 (Kd.V Kd.string 9 w' w.heap.size (fun k_ => ((P0_ k_ ∨ P1_ k_ ∨ P2_ k_) ∨ w.heap.size ≤ k_) ∧ some k_ ≠ (v237 : Value).ownBlock ∧ some k_ ≠ (v240 : Value).ownBlock ∧ some k_ ≠ (u9 : Value).ownBlock) (.slice A2 l2.length c2) l2) ∧ Aside0 (Kd.R k70 70 w' w.heap.size (fun k_ => (w.heap.size ≤ k_) ∧ some k_ ≠ (v240 : Value).ownBlock) v237 t236) ∧ Aside0 (Kd.R k70 70 w' w.heap.size (fun k_ => (w.heap.size ≤ k_) ∧ some k_ ≠ (v237 : Value).ownBlock) v240 t239) ∧ Aside0 (Kd.N k33 33 w' w.heap.size (fun k_ => ((P0_ k_ ∨ P1_ k_ ∨ P2_ k_) ∨ w.heap.size ≤ k_) ∧ some k_ ≠ (v237 : Value).ownBlock ∧ some k_ ≠ (v240 : Value).ownBlock) u9 x9_1) ∧ Aside0 (Below w.heap.size w w'))
       case atStart => exact ⟨(0), (by first | rfl | (simp; done) | (simp [*]; done)), H', ⟨Nat.le_refl _⟩, ⟨by (with_reducible repeat (first | apply Kd.V_alloc | apply Kd.V_drewN | apply Kd.V_drew)); exact HO_0.out⟩, ⟨by (with_reducible repeat (first | apply Kd.V_alloc | apply Kd.V_drewN | apply Kd.V_drew)); exact HO_1.out⟩, ⟨by (with_reducible repeat (first | apply Kd.V_alloc | apply Kd.V_drewN | apply Kd.V_drew)); exact HO_2.out⟩, ⟨by (with_reducible repeat (first | apply Kd.R_alloc | apply Kd.R_drewN | apply Kd.R_drew)); exact HO_7.out⟩, ⟨by (with_reducible repeat (first | apply Kd.R_alloc | apply Kd.R_drewN | apply Kd.R_drew)); exact HO_8.out⟩, ⟨by (with_reducible repeat (first | apply Kd.N_alloc | apply Kd.N_drewN | apply Kd.N_drew)); exact HO_9.out⟩, ⟨by repeat (first | (with_reducible first | exact HB.out | apply below_alloc | apply pw_below_drewN | apply below_drew1) | exact HB.out)⟩⟩
       case round =>
        clear H'
        try clear c1
        try clear c2
        try clear p2
        try clear c11
        try clear c11b0
        try clear c12
        try clear c12b0
        try clear c13
        try clear p2
        obtain ⟨x13_3, rfl, HA, HK3, HO_0, HO_1, HO_2, HO_7, HO_8, HO_9, HB⟩ := hrel
        cases gk with
        | zero => exact absurd HA.out (by simp [pollardref19_Chunks.l1])
        | succ k3 =>
         have H := HA.out
         clear HA
         simp only [pollardref19_Chunks.l1] at H
         by_cases c15 : (wrap64 (x10_1 + x13_3)) < (l0.length : Int)
         ·
          rw [if_pos c15] at H
          have c15b0 : decide ((wrap64 (x10_1 + x13_3)) < (l0.length : Int)) = true := decide_eq_true c15
          clear c15
          (first | rw [c15b0] | (simp only [i64_w, i32_w]; rw [c15b0]) | skip)
          replace H := Option.bind_eq_some_iff.mp H
          obtain ⟨t245, A160, H⟩ := H
          replace H : (if t245 = (wrap64 (x11_1 + x13_3)) then ((pollardref19_partner.f k3 t239 (wrap64 (x10_1 + x13_3))).bind fun t246 => (if t246 = (wrap64 (x12_1 + x13_3)) then (pollardref19_Chunks.l1 k3 l0 l1 l2 t236 t239 x9_1 x10_1 x11_1 x12_1 (wrap64 (x13_3 + 1))) else (pollardref19_Chunks.j3 k3 l0 l1 l2 t236 t239 x9_1 x10_1 x11_1 x12_1 x13_3))) else (pollardref19_Chunks.j3 k3 l0 l1 l2 t236 t239 x9_1 x10_1 x11_1 x12_1 x13_3)) = some r := H
          have A16 := Aside0.mk A160
          clear A160
          by_cases c17 : t245 = (wrap64 (x11_1 + x13_3))
          ·
           rw [if_pos c17] at H
           have c17b0 : (t245 == (wrap64 (x11_1 + x13_3))) = true := beq_iff_eq.mpr c17
           have c17b1 : (t245 != (wrap64 (x11_1 + x13_3))) = false := bne_eq_false_iff_eq.mpr c17
           clear c17
           replace H := Option.bind_eq_some_iff.mp H
           obtain ⟨t246, A180, H⟩ := H
           replace H : (if t246 = (wrap64 (x12_1 + x13_3)) then (pollardref19_Chunks.l1 k3 l0 l1 l2 t236 t239 x9_1 x10_1 x11_1 x12_1 (wrap64 (x13_3 + 1))) else (pollardref19_Chunks.j3 k3 l0 l1 l2 t236 t239 x9_1 x10_1 x11_1 x12_1 x13_3)) = some r := H
           have A18 := Aside0.mk A180
           clear A180
           by_cases c19 : t246 = (wrap64 (x12_1 + x13_3))
           · rw [if_pos c19] at H
             have c19b0 : (t246 == (wrap64 (x12_1 + x13_3))) = true := beq_iff_eq.mpr c19
             have c19b1 : (t246 != (wrap64 (x12_1 + x13_3))) = false := bne_eq_false_iff_eq.mpr c19
             clear c19
             have H' := Aside0.mk H
             clear H
             obtain ⟨Ao20, co20, eo20⟩ := Kd.R_slice HO_7.out
             subst eo20
             go_wp2_with (first | (go_at_call 22; (with_reducible refine (pollardref19_partner.calls k3 _ _ t236 (wrap64 (x10_1 + x13_3)) t245 _ ?side1 ?side2 A16.out).mono ?_); (case side1 => repeat (first | exact (Kd.R_reads' HO_7.out).2.2 | (with_reducible refine Kd.C_alloc ?_ _) | (with_reducible refine Kd.C_drewN ?_ _) | (with_reducible refine Kd.C_drew ?_))); (case side2 => exact (Kd.R_reads' HO_7.out).2.1); rintro e w' ⟨rfl, ⟨nd, rfl⟩⟩; obtain ⟨Ao21, co21, eo21⟩ := Kd.R_slice HO_8.out; subst eo21) | (go_at_call 22; (with_reducible refine (pollardref19_partner.calls k3 _ _ t239 (wrap64 (x10_1 + x13_3)) t246 _ ?side1 ?side2 A18.out).mono ?_); (case side1 => repeat (first | exact (Kd.R_reads' HO_8.out).2.2 | (with_reducible refine Kd.C_alloc ?_ _) | (with_reducible refine Kd.C_drewN ?_ _) | (with_reducible refine Kd.C_drew ?_))); (case side2 => exact (Kd.R_reads' HO_8.out).2.1); rintro e w' ⟨rfl, ⟨nd, rfl⟩⟩))
             go_roundg k3
             case measure => have := HK1.out; have := HJ9.out; have := HK3.out; omega
             case rel => exact ⟨(wrap64 (x13_3 + 1)), (by first | rfl | (simp; done) | (simp [*]; done)), H', ⟨by have := HK1.out; have := HJ9.out; have := HK3.out; omega⟩, ⟨by (with_reducible repeat (first | apply Kd.V_alloc | apply Kd.V_drewN | apply Kd.V_drew)); exact HO_0.out⟩, ⟨by (with_reducible repeat (first | apply Kd.V_alloc | apply Kd.V_drewN | apply Kd.V_drew)); exact HO_1.out⟩, ⟨by (with_reducible repeat (first | apply Kd.V_alloc | apply Kd.V_drewN | apply Kd.V_drew)); exact HO_2.out⟩, ⟨by (with_reducible repeat (first | apply Kd.R_alloc | apply Kd.R_drewN | apply Kd.R_drew)); exact HO_7.out⟩, ⟨by (with_reducible repeat (first | apply Kd.R_alloc | apply Kd.R_drewN | apply Kd.R_drew)); exact HO_8.out⟩, ⟨by (with_reducible repeat (first | apply Kd.N_alloc | apply Kd.N_drewN | apply Kd.N_drew)); exact HO_9.out⟩, ⟨by repeat (first | (with_reducible first | exact HB.out | apply below_alloc | apply pw_below_drewN | apply below_drew1) | exact HB.out)⟩⟩
           · rw [if_neg c19] at H
             have c19b0 : (t246 == (wrap64 (x12_1 + x13_3))) = false := beq_eq_false_iff_ne.mpr c19
             have c19b1 : (t246 != (wrap64 (x12_1 + x13_3))) = true := bne_iff_ne.mpr c19
             have H' := Aside0.mk H
             clear H
             obtain ⟨Ao22, co22, eo22⟩ := Kd.R_slice HO_7.out
             subst eo22
             go_wp2_with (first | (go_at_call 22; (with_reducible refine (pollardref19_partner.calls k3 _ _ t236 (wrap64 (x10_1 + x13_3)) t245 _ ?side1 ?side2 A16.out).mono ?_); (case side1 => repeat (first | exact (Kd.R_reads' HO_7.out).2.2 | (with_reducible refine Kd.C_alloc ?_ _) | (with_reducible refine Kd.C_drewN ?_ _) | (with_reducible refine Kd.C_drew ?_))); (case side2 => exact (Kd.R_reads' HO_7.out).2.1); rintro e w' ⟨rfl, ⟨nd, rfl⟩⟩; obtain ⟨Ao23, co23, eo23⟩ := Kd.R_slice HO_8.out; subst eo23) | (go_at_call 22; (with_reducible refine (pollardref19_partner.calls k3 _ _ t239 (wrap64 (x10_1 + x13_3)) t246 _ ?side1 ?side2 A18.out).mono ?_); (case side1 => repeat (first | exact (Kd.R_reads' HO_8.out).2.2 | (with_reducible refine Kd.C_alloc ?_ _) | (with_reducible refine Kd.C_drewN ?_ _) | (with_reducible refine Kd.C_drew ?_))); (case side2 => exact (Kd.R_reads' HO_8.out).2.1); rintro e w' ⟨rfl, ⟨nd, rfl⟩⟩))
             go_meet
             case rel => exact ⟨_, (x13_3), (by first | rfl | (simp; done) | (simp [*]; done)), H', ⟨by have := HK1.out; have := HJ9.out; have := HK3.out; first | omega | exact Nat.le_refl _⟩, ⟨by (with_reducible repeat (first | apply Kd.V_alloc | apply Kd.V_drewN | apply Kd.V_drew)); exact HO_0.out⟩, ⟨by (with_reducible repeat (first | apply Kd.V_alloc | apply Kd.V_drewN | apply Kd.V_drew)); exact HO_1.out⟩, ⟨by (with_reducible repeat (first | apply Kd.V_alloc | apply Kd.V_drewN | apply Kd.V_drew)); exact HO_2.out⟩, ⟨by (with_reducible repeat (first | apply Kd.R_alloc | apply Kd.R_drewN | apply Kd.R_drew)); exact HO_7.out⟩, ⟨by (with_reducible repeat (first | apply Kd.R_alloc | apply Kd.R_drewN | apply Kd.R_drew)); exact HO_8.out⟩, ⟨by (with_reducible repeat (first | apply Kd.N_alloc | apply Kd.N_drewN | apply Kd.N_drew)); exact HO_9.out⟩, ⟨by repeat (first | (with_reducible first | exact HB.out | apply below_alloc | apply pw_below_drewN | apply below_drew1) | exact HB.out)⟩⟩
          · rw [if_neg c17] at H
            have c17b0 : (t245 == (wrap64 (x11_1 + x13_3))) = false := beq_eq_false_iff_ne.mpr c17
            have c17b1 : (t245 != (wrap64 (x11_1 + x13_3))) = true := bne_iff_ne.mpr c17
            have H' := Aside0.mk H
            clear H
            obtain ⟨Ao24, co24, eo24⟩ := Kd.R_slice HO_7.out
            subst eo24
            go_wp2_with (first | (go_at_call 22; (with_reducible refine (pollardref19_partner.calls k3 _ _ t236 (wrap64 (x10_1 + x13_3)) t245 _ ?side1 ?side2 A16.out).mono ?_); (case side1 => repeat (first | exact (Kd.R_reads' HO_7.out).2.2 | (with_reducible refine Kd.C_alloc ?_ _) | (with_reducible refine Kd.C_drewN ?_ _) | (with_reducible refine Kd.C_drew ?_))); (case side2 => exact (Kd.R_reads' HO_7.out).2.1); rintro e w' ⟨rfl, ⟨nd, rfl⟩⟩))
            go_meet
            case rel => exact ⟨_, (x13_3), (by first | rfl | (simp; done) | (simp [*]; done)), H', ⟨by have := HK1.out; have := HJ9.out; have := HK3.out; first | omega | exact Nat.le_refl _⟩, ⟨by (with_reducible repeat (first | apply Kd.V_alloc | apply Kd.V_drewN | apply Kd.V_drew)); exact HO_0.out⟩, ⟨by (with_reducible repeat (first | apply Kd.V_alloc | apply Kd.V_drewN | apply Kd.V_drew)); exact HO_1.out⟩, ⟨by (with_reducible repeat (first | apply Kd.V_alloc | apply Kd.V_drewN | apply Kd.V_drew)); exact HO_2.out⟩, ⟨by (with_reducible repeat (first | apply Kd.R_alloc | apply Kd.R_drewN | apply Kd.R_drew)); exact HO_7.out⟩, ⟨by (with_reducible repeat (first | apply Kd.R_alloc | apply Kd.R_drewN | apply Kd.R_drew)); exact HO_8.out⟩, ⟨by (with_reducible repeat (first | apply Kd.N_alloc | apply Kd.N_drewN | apply Kd.N_drew)); exact HO_9.out⟩, ⟨by repeat (first | (with_reducible first | exact HB.out | apply below_alloc | apply pw_below_drewN | apply below_drew1) | exact HB.out)⟩⟩
         · rw [if_neg c15] at H
           have c15b0 : decide ((wrap64 (x10_1 + x13_3)) < (l0.length : Int)) = false := decide_eq_false c15
           clear c15
           (first | rw [c15b0] | (simp only [i64_w, i32_w]; rw [c15b0]) | skip)
           have H' := Aside0.mk H
           clear H
           go_wp2
           go_meet
           case rel => exact ⟨_, (x13_3), (by first | rfl | (simp; done) | (simp [*]; done)), H', ⟨by have := HK1.out; have := HJ9.out; have := HK3.out; first | omega | exact Nat.le_refl _⟩, ⟨by (with_reducible repeat (first | apply Kd.V_alloc | apply Kd.V_drewN | apply Kd.V_drew)); exact HO_0.out⟩, ⟨by (with_reducible repeat (first | apply Kd.V_alloc | apply Kd.V_drewN | apply Kd.V_drew)); exact HO_1.out⟩, ⟨by (with_reducible repeat (first | apply Kd.V_alloc | apply Kd.V_drewN | apply Kd.V_drew)); exact HO_2.out⟩, ⟨by (with_reducible repeat (first | apply Kd.R_alloc | apply Kd.R_drewN | apply Kd.R_drew)); exact HO_7.out⟩, ⟨by (with_reducible repeat (first | apply Kd.R_alloc | apply Kd.R_drewN | apply Kd.R_drew)); exact HO_8.out⟩, ⟨by (with_reducible repeat (first | apply Kd.N_alloc | apply Kd.N_drewN | apply Kd.N_drew)); exact HO_9.out⟩, ⟨by repeat (first | (with_reducible first | exact HB.out | apply below_alloc | apply pw_below_drewN | apply below_drew1) | exact HB.out)⟩⟩
      case rest =>
       clear HC14
       try clear c1
       try clear c2
       try clear p2
       try clear p6
       try clear c11
       try clear c11b0
       try clear c12
       try clear c12b0
       try clear c13
       try clear c15
       try clear c15b0
       try clear c17
       try clear c17b0
       try clear c17b1
       try clear c19
       try clear c19b0
       try clear c19b1
       try clear c21
       try clear p2
       obtain ⟨kq, x13_13, rfl, HA, HJ13, HO_0, HO_1, HO_2, HO_7, HO_8, HO_9, HB⟩ := hcut
       cases kq with
       | zero => exact absurd HA.out (by simp [pollardref19_Chunks.j3])
       | succ kj13 =>
        have H := HA.out
        clear HA
        simp only [pollardref19_Chunks.j3] at H
        by_cases c25 : x13_13 = 0
        ·
         rw [if_pos c25] at H
         have c25b0 : (x13_13 == 0) = true := beq_iff_eq.mpr c25
         have c25b1 : (x13_13 != 0) = false := bne_eq_false_iff_eq.mpr c25
         clear c25
         have HC26 := Aside0.mk H
         clear H
         go_upto_block 4 with (fail)
         go_cut [14] (fun v14 wc => ∃ (kq : Nat) (x14_25 : Int), v14 = .int .i64 x14_25 ∧ Aside0 (pollardref19_Chunks.j5 kq l0 l1 l2 t236 t239 x9_1 x10_1 x11_1 x12_1 x14_25 = some r) ∧ Aside0 (kq ≤ kj13) ∧ Aside0 (Kd.V Kd.string 9 wc w.heap.size (fun k_ => ((P0_ k_ ∨ P1_ k_ ∨ P2_ k_) ∨ w.heap.size ≤ k_) ∧ some k_ ≠ (v237 : Value).ownBlock ∧ some k_ ≠ (v240 : Value).ownBlock ∧ some k_ ≠ (u9 : Value).ownBlock) (.slice A0 l0.length c0) l0) ∧ Aside0 (Kd.V Kd.string 9 wc w.heap.size (fun k_ => ((P0_ k_ ∨ P1_ k_ ∨ P2_ k_) ∨ w.heap.size ≤ k_) ∧ some k_ ≠ (v237 : Value).ownBlock ∧ some k_ ≠ (v240 : Value).ownBlock ∧ some k_ ≠ (u9 : Value).ownBlock) (.slice A1 l1.length c1) l1) ∧ Aside0 (Kd.V Kd.string 9 wc w.heap.size (fun k_ => ((P0_ k_ ∨ P1_ k_ ∨ P2_ k_) ∨ w.heap.size ≤ k_) ∧ some k_ ≠ (v237 : Value).ownBlock ∧ some k_ ≠ (v240 : Value).ownBlock ∧ some k_ ≠ (u9 : Value).ownBlock) (.slice A2 l2.length c2) l2) ∧ Aside0 (Kd.R k70 70 wc w.heap.size (fun k_ => (w.heap.size ≤ k_) ∧ some k_ ≠ (v240 : Value).ownBlock) v237 t236) ∧ Aside0 (Kd.R k70 70 wc w.heap.size (fun k_ => (w.heap.size ≤ k_) ∧ some k_ ≠ (v237 : Value).ownBlock) v240 t239) ∧ Aside0 (Kd.N k33 33 wc w.heap.size (fun k_ => ((P0_ k_ ∨ P1_ k_ ∨ P2_ k_) ∨ w.heap.size ≤ k_) ∧ some k_ ≠ (v237 : Value).ownBlock ∧ some k_ ≠ (v240 : Value).ownBlock) u9 x9_1) ∧ Aside0 (Below w.heap.size w wc))
         case first =>
          have H := HC26.out
          clear HC26
          have H' := Aside0.mk H
          clear H
          go_wp2
          go_loopg [14] kj13 (fun kq v14 w' => ∃ (x14_4 : Int), v14 = .int .i64 x14_4 ∧ Aside0 (pollardref19_Chunks.l2 kq l0 l1 l2 t236 t239 x9_1 x10_1 x11_1 x12_1 x14_4 = some r) ∧ Aside0 (kq ≤ kj13) ∧ Aside0 (Kd.V Kd.string 9 w' w.heap.size (fun k_ => ((P0_ k_ ∨ P1_ k_ ∨ P2_ k_) ∨ w.heap.size ≤ k_) ∧ some k_ ≠ (v237 : Value).ownBlock ∧ some k_ ≠ (v240 : Value).ownBlock ∧ some k_ ≠ (u9 : Value).ownBlock) (.slice A0 l0.length c0) l0) ∧ Aside0 (Kd.V Kd.string 9 w' w.heap.size (fun k_ => ((P0_ k_ ∨ P1_ k_ ∨ P2_ k_) ∨ w.heap.size ≤ k_) ∧ some k_ ≠ (v237 : Value).ownBlock ∧ some k_ ≠ (v240 : Value).ownBlock ∧ some k_ ≠ (u9 : Value).ownBlock) (.slice A1 l1.length c1) l1) ∧ Aside0 (Kd.V Kd.string 9 w' w.heap.size (fun k_ => ((P0_ k_ ∨ P1_ k_ ∨ P2_ k_) ∨ w.heap.size ≤ k_) ∧ some k_ ≠ (v237 : Value).ownBlock ∧ some k_ ≠ (v240 : Value).ownBlock ∧ some k_ ≠ (u9 : Value).ownBlock) (.slice A2 l2.length c2) l2) ∧ Aside0 (Kd.R k70 70 w' w.heap.size (fun k_ => (w.heap.size ≤ k_) ∧ some k_ ≠ (v240 : Value).ownBlock) v237 t236) ∧ Aside0 (Kd.R k70 70 w' w.heap.size (fun k_ => (w.heap.size ≤ k_) ∧ some k_ ≠ (v237 : Value).ownBlock) v240 t239) ∧ Aside0 (Kd.N k33 33 w' w.heap.size (fun k_ => ((P0_ k_ ∨ P1_ k_ ∨ P2_ k_) ∨ w.heap.size ≤ k_) ∧ some k_ ≠ (v237 : Value).ownBlock ∧ some k_ ≠ (v240 : Value).ownBlock) u9 x9_1) ∧ Aside0 (Below w.heap.size w w'))
          case atStart => exact ⟨(wrap64 (x10_1 + x13_13)), (by first | rfl | (simp; done) | (simp [*]; done)), H', ⟨Nat.le_refl _⟩, ⟨by (with_reducible repeat (first | apply Kd.V_alloc | apply Kd.V_drewN | apply Kd.V_drew)); exact HO_0.out⟩, ⟨by (with_reducible repeat (first | apply Kd.V_alloc | apply Kd.V_drewN | apply Kd.V_drew)); exact HO_1.out⟩, ⟨by (with_reducible repeat (first | apply Kd.V_alloc | apply Kd.V_drewN | apply Kd.V_drew)); exact HO_2.out⟩, ⟨by (with_reducible repeat (first | apply Kd.R_alloc | apply Kd.R_drewN | apply Kd.R_drew)); exact HO_7.out⟩, ⟨by (with_reducible repeat (first | apply Kd.R_alloc | apply Kd.R_drewN | apply Kd.R_drew)); exact HO_8.out⟩, ⟨by (with_reducible repeat (first | apply Kd.N_alloc | apply Kd.N_drewN | apply Kd.N_drew)); exact HO_9.out⟩, ⟨by repeat (first | (with_reducible first | exact HB.out | apply below_alloc | apply pw_below_drewN | apply below_drew1) | exact HB.out)⟩⟩
          case round =>
           clear H'
           try clear c1
           try clear c2
           try clear p2
           try clear p6
           try clear c11
           try clear c11b0
           try clear c12
           try clear c12b0
           try clear c13
           try clear c15
           try clear c15b0
           try clear c17
           try clear c17b0
           try clear c17b1
           try clear c19
           try clear c19b0
           try clear c19b1
           try clear c21
           try clear c25
           try clear c25b0
           try clear c25b1
           try clear p2
           try clear p6
           obtain ⟨x14_4, rfl, HA, HK4, HO_0, HO_1, HO_2, HO_7, HO_8, HO_9, HB⟩ := hrel
           cases gk with
           | zero => exact absurd HA.out (by simp [pollardref19_Chunks.l2])
           | succ k4 =>
            have H := HA.out
            clear HA
            simp only [pollardref19_Chunks.l2] at H
            by_cases c27 : x14_4 < (l0.length : Int)
            ·
             rw [if_pos c27] at H
             have c27b0 : decide (x14_4 < (l0.length : Int)) = true := decide_eq_true c27
             clear c27
             (first | rw [c27b0] | (simp only [i64_w, i32_w]; rw [c27b0]) | skip)
             replace H := Option.bind_eq_some_iff.mp H
             obtain ⟨t247, A280, H⟩ := H
             replace H : (if t247 < 0 then (pollardref19_Chunks.l2 k4 l0 l1 l2 t236 t239 x9_1 x10_1 x11_1 x12_1 (wrap64 (x14_4 + 1))) else ((pollardref19_partner.f k4 t239 x14_4).bind fun t248 => (if t248 < 0 then (pollardref19_Chunks.l2 k4 l0 l1 l2 t236 t239 x9_1 x10_1 x11_1 x12_1 (wrap64 (x14_4 + 1))) else (pollardref19_Chunks.j5 k4 l0 l1 l2 t236 t239 x9_1 x10_1 x11_1 x12_1 x14_4)))) = some r := H
             have A28 := Aside0.mk A280
             clear A280
             by_cases c29 : t247 < 0
             · rw [if_pos c29] at H
               have c29b0 : decide (t247 < 0) = true := decide_eq_true c29
               clear c29
               have H' := Aside0.mk H
               clear H
               obtain ⟨Ao30, co30, eo30⟩ := Kd.R_slice HO_7.out
               subst eo30
               go_wp2_with (first | (go_at_call 22; (with_reducible refine (pollardref19_partner.calls k4 _ _ t236 x14_4 t247 _ ?side1 ?side2 A28.out).mono ?_); (case side1 => repeat (first | exact (Kd.R_reads' HO_7.out).2.2 | (with_reducible refine Kd.C_alloc ?_ _) | (with_reducible refine Kd.C_drewN ?_ _) | (with_reducible refine Kd.C_drew ?_))); (case side2 => exact (Kd.R_reads' HO_7.out).2.1); rintro e w' ⟨rfl, ⟨nd, rfl⟩⟩))
               go_roundg k4
               case measure => have := HK1.out; have := HJ9.out; have := HJ13.out; have := HK4.out; omega
               case rel => exact ⟨(wrap64 (x14_4 + 1)), (by first | rfl | (simp; done) | (simp [*]; done)), H', ⟨by have := HK1.out; have := HJ9.out; have := HJ13.out; have := HK4.out; omega⟩, ⟨by (with_reducible repeat (first | apply Kd.V_alloc | apply Kd.V_drewN | apply Kd.V_drew)); exact HO_0.out⟩, ⟨by (with_reducible repeat (first | apply Kd.V_alloc | apply Kd.V_drewN | apply Kd.V_drew)); exact HO_1.out⟩, ⟨by (with_reducible repeat (first | apply Kd.V_alloc | apply Kd.V_drewN | apply Kd.V_drew)); exact HO_2.out⟩, ⟨by (with_reducible repeat (first | apply Kd.R_alloc | apply Kd.R_drewN | apply Kd.R_drew)); exact HO_7.out⟩, ⟨by (with_reducible repeat (first | apply Kd.R_alloc | apply Kd.R_drewN | apply Kd.R_drew)); exact HO_8.out⟩, ⟨by (with_reducible repeat (first | apply Kd.N_alloc | apply Kd.N_drewN | apply Kd.N_drew)); exact HO_9.out⟩, ⟨by repeat (first | (with_reducible first | exact HB.out | apply below_alloc | apply pw_below_drewN | apply below_drew1) | exact HB.out)⟩⟩
             ·
              rw [if_neg c29] at H
              have c29b0 : decide (t247 < 0) = false := decide_eq_false c29
              clear c29
              replace H := Option.bind_eq_some_iff.mp H
              obtain ⟨t248, A310, H⟩ := H
              replace H : (if t248 < 0 then (pollardref19_Chunks.l2 k4 l0 l1 l2 t236 t239 x9_1 x10_1 x11_1 x12_1 (wrap64 (x14_4 + 1))) else (pollardref19_Chunks.j5 k4 l0 l1 l2 t236 t239 x9_1 x10_1 x11_1 x12_1 x14_4)) = some r := H
              have A31 := Aside0.mk A310
              clear A310
              by_cases c32 : t248 < 0
              · rw [if_pos c32] at H
                have c32b0 : decide (t248 < 0) = true := decide_eq_true c32
                clear c32
                have H' := Aside0.mk H
                clear H
                obtain ⟨Ao33, co33, eo33⟩ := Kd.R_slice HO_7.out
                subst eo33
                go_wp2_with (first | (go_at_call 22; (with_reducible refine (pollardref19_partner.calls k4 _ _ t236 x14_4 t247 _ ?side1 ?side2 A28.out).mono ?_); (case side1 => repeat (first | exact (Kd.R_reads' HO_7.out).2.2 | (with_reducible refine Kd.C_alloc ?_ _) | (with_reducible refine Kd.C_drewN ?_ _) | (with_reducible refine Kd.C_drew ?_))); (case side2 => exact (Kd.R_reads' HO_7.out).2.1); rintro e w' ⟨rfl, ⟨nd, rfl⟩⟩; obtain ⟨Ao34, co34, eo34⟩ := Kd.R_slice HO_8.out; subst eo34) | (go_at_call 22; (with_reducible refine (pollardref19_partner.calls k4 _ _ t239 x14_4 t248 _ ?side1 ?side2 A31.out).mono ?_); (case side1 => repeat (first | exact (Kd.R_reads' HO_8.out).2.2 | (with_reducible refine Kd.C_alloc ?_ _) | (with_reducible refine Kd.C_drewN ?_ _) | (with_reducible refine Kd.C_drew ?_))); (case side2 => exact (Kd.R_reads' HO_8.out).2.1); rintro e w' ⟨rfl, ⟨nd, rfl⟩⟩))
                go_roundg k4
                case measure => have := HK1.out; have := HJ9.out; have := HJ13.out; have := HK4.out; omega
                case rel => exact ⟨(wrap64 (x14_4 + 1)), (by first | rfl | (simp; done) | (simp [*]; done)), H', ⟨by have := HK1.out; have := HJ9.out; have := HJ13.out; have := HK4.out; omega⟩, ⟨by (with_reducible repeat (first | apply Kd.V_alloc | apply Kd.V_drewN | apply Kd.V_drew)); exact HO_0.out⟩, ⟨by (with_reducible repeat (first | apply Kd.V_alloc | apply Kd.V_drewN | apply Kd.V_drew)); exact HO_1.out⟩, ⟨by (with_reducible repeat (first | apply Kd.V_alloc | apply Kd.V_drewN | apply Kd.V_drew)); exact HO_2.out⟩, ⟨by (with_reducible repeat (first | apply Kd.R_alloc | apply Kd.R_drewN | apply Kd.R_drew)); exact HO_7.out⟩, ⟨by (with_reducible repeat (first | apply Kd.R_alloc | apply Kd.R_drewN | apply Kd.R_drew)); exact HO_8.out⟩, ⟨by (with_reducible repeat (first | apply Kd.N_alloc | apply Kd.N_drewN | apply Kd.N_drew)); exact HO_9.out⟩, ⟨by repeat (first | (with_reducible first | exact HB.out | apply below_alloc | apply pw_below_drewN | apply below_drew1) | exact HB.out)⟩⟩
              · rw [if_neg c32] at H
                have c32b0 : decide (t248 < 0) = false := decide_eq_false c32
                clear c32
                have H' := Aside0.mk H
                clear H
                obtain ⟨Ao35, co35, eo35⟩ := Kd.R_slice HO_7.out
                subst eo35
                go_wp2_with (first | (go_at_call 22; (with_reducible refine (pollardref19_partner.calls k4 _ _ t236 x14_4 t247 _ ?side1 ?side2 A28.out).mono ?_); (case side1 => repeat (first | exact (Kd.R_reads' HO_7.out).2.2 | (with_reducible refine Kd.C_alloc ?_ _) | (with_reducible refine Kd.C_drewN ?_ _) | (with_reducible refine Kd.C_drew ?_))); (case side2 => exact (Kd.R_reads' HO_7.out).2.1); rintro e w' ⟨rfl, ⟨nd, rfl⟩⟩; obtain ⟨Ao36, co36, eo36⟩ := Kd.R_slice HO_8.out; subst eo36) | (go_at_call 22; (with_reducible refine (pollardref19_partner.calls k4 _ _ t239 x14_4 t248 _ ?side1 ?side2 A31.out).mono ?_); (case side1 => repeat (first | exact (Kd.R_reads' HO_8.out).2.2 | (with_reducible refine Kd.C_alloc ?_ _) | (with_reducible refine Kd.C_drewN ?_ _) | (with_reducible refine Kd.C_drew ?_))); (case side2 => exact (Kd.R_reads' HO_8.out).2.1); rintro e w' ⟨rfl, ⟨nd, rfl⟩⟩))
                go_meet
                case rel => exact ⟨_, (x14_4), (by first | rfl | (simp; done) | (simp [*]; done)), H', ⟨by have := HK1.out; have := HJ9.out; have := HJ13.out; have := HK4.out; first | omega | exact Nat.le_refl _⟩, ⟨by (with_reducible repeat (first | apply Kd.V_alloc | apply Kd.V_drewN | apply Kd.V_drew)); exact HO_0.out⟩, ⟨by (with_reducible repeat (first | apply Kd.V_alloc | apply Kd.V_drewN | apply Kd.V_drew)); exact HO_1.out⟩, ⟨by (with_reducible repeat (first | apply Kd.V_alloc | apply Kd.V_drewN | apply Kd.V_drew)); exact HO_2.out⟩, ⟨by (with_reducible repeat (first | apply Kd.R_alloc | apply Kd.R_drewN | apply Kd.R_drew)); exact HO_7.out⟩, ⟨by (with_reducible repeat (first | apply Kd.R_alloc | apply Kd.R_drewN | apply Kd.R_drew)); exact HO_8.out⟩, ⟨by (with_reducible repeat (first | apply Kd.N_alloc | apply Kd.N_drewN | apply Kd.N_drew)); exact HO_9.out⟩, ⟨by repeat (first | (with_reducible first | exact HB.out | apply below_alloc | apply pw_below_drewN | apply below_drew1) | exact HB.out)⟩⟩
            · rw [if_neg c27] at H
              have c27b0 : decide (x14_4 < (l0.length : Int)) = false := decide_eq_false c27
              clear c27
              (first | rw [c27b0] | (simp only [i64_w, i32_w]; rw [c27b0]) | skip)
              have H' := Aside0.mk H
              clear H
              go_wp2
              go_meet
              case rel => exact ⟨_, (x14_4), (by first | rfl | (simp; done) | (simp [*]; done)), H', ⟨by have := HK1.out; have := HJ9.out; have := HJ13.out; have := HK4.out; first | omega | exact Nat.le_refl _⟩, ⟨by (with_reducible repeat (first | apply Kd.V_alloc | apply Kd.V_drewN | apply Kd.V_drew)); exact HO_0.out⟩, ⟨by (with_reducible repeat (first | apply Kd.V_alloc | apply Kd.V_drewN | apply Kd.V_drew)); exact HO_1.out⟩, ⟨by (with_reducible repeat (first | apply Kd.V_alloc | apply Kd.V_drewN | apply Kd.V_drew)); exact HO_2.out⟩, ⟨by (with_reducible repeat (first | apply Kd.R_alloc | apply Kd.R_drewN | apply Kd.R_drew)); exact HO_7.out⟩, ⟨by (with_reducible repeat (first | apply Kd.R_alloc | apply Kd.R_drewN | apply Kd.R_drew)); exact HO_8.out⟩, ⟨by (with_reducible repeat (first | apply Kd.N_alloc | apply Kd.N_drewN | apply Kd.N_drew)); exact HO_9.out⟩, ⟨by repeat (first | (with_reducible first | exact HB.out | apply below_alloc | apply pw_below_drewN | apply below_drew1) | exact HB.out)⟩⟩
         case rest =>
          clear HC26
          try clear c1
          try clear c2
          try clear p2
          try clear c3
          try clear p6
          try clear c11
          try clear c11b0
          try clear c12
          try clear c12b0
          try clear c13
          try clear c15
          try clear c15b0
          try clear c17
          try clear c17b0
          try clear c17b1
          try clear c19
          try clear c19b0
          try clear c19b1
          try clear c21
          try clear c25
          try clear c25b0
          try clear c25b1
          try clear c27
          try clear c27b0
          try clear c29
          try clear c29b0
          try clear c32
          try clear c32b0
          try clear p2
          try clear p6
          obtain ⟨kq, x14_25, rfl, HA, HJ25, HO_0, HO_1, HO_2, HO_7, HO_8, HO_9, HB⟩ := hcut
          cases kq with
          | zero => exact absurd HA.out (by simp [pollardref19_Chunks.j5])
          | succ kj25 =>
           have H := HA.out
           clear HA
           simp only [pollardref19_Chunks.j5] at H
           by_cases c37 : x14_25 < (l0.length : Int)
           ·
            rw [if_pos c37] at H
            have c37b0 : decide (x14_25 < (l0.length : Int)) = true := decide_eq_true c37
            clear c37
            replace H := Option.bind_eq_some_iff.mp H
            obtain ⟨t249, A380, H⟩ := H
            replace H : ((pollardref19_partner.f kj25 t239 x14_25).bind fun t250 => (if 0 ≤ x10_1 then (if x10_1 ≤ x14_25 then (if x14_25 ≤ (l0.length : Int) then (if 0 ≤ x11_1 then (if x11_1 ≤ t249 then (if t249 ≤ (l1.length : Int) then (if 0 ≤ x12_1 then (if x12_1 ≤ t250 then (if t250 ≤ (l2.length : Int) then ((pollardref19_kind.f kj25 ((l0.take (x14_25 : Int).toNat).drop (x10_1 : Int).toNat) ((l1.take (t249 : Int).toNat).drop (x11_1 : Int).toNat) ((l2.take (t250 : Int).toNat).drop (x12_1 : Int).toNat)).bind fun t266 => (if x9_1.length < 1759218604441 then (pollardref19_Chunks.l0 kj25 l0 l1 l2 t236 t239 (x9_1 ++ [(⟨t266, ((l0.take (x14_25 : Int).toNat).drop (x10_1 : Int).toNat), ((l1.take (t249 : Int).toNat).drop (x11_1 : Int).toNat), ((l2.take (t250 : Int).toNat).drop (x12_1 : Int).toNat)⟩ : S33)]) x14_25 t249 t250) else (none))) else (none)) else (none)) else (none)) else (none)) else (none)) else (none)) else (none)) else (none)) else (none))) = some r := H
            have A38 := Aside0.mk A380
            clear A380
            replace H := Option.bind_eq_some_iff.mp H
            obtain ⟨t250, A390, H⟩ := H
            replace H : (if 0 ≤ x10_1 then (if x10_1 ≤ x14_25 then (if x14_25 ≤ (l0.length : Int) then (if 0 ≤ x11_1 then (if x11_1 ≤ t249 then (if t249 ≤ (l1.length : Int) then (if 0 ≤ x12_1 then (if x12_1 ≤ t250 then (if t250 ≤ (l2.length : Int) then ((pollardref19_kind.f kj25 ((l0.take (x14_25 : Int).toNat).drop (x10_1 : Int).toNat) ((l1.take (t249 : Int).toNat).drop (x11_1 : Int).toNat) ((l2.take (t250 : Int).toNat).drop (x12_1 : Int).toNat)).bind fun t266 => (if x9_1.length < 1759218604441 then (pollardref19_Chunks.l0 kj25 l0 l1 l2 t236 t239 (x9_1 ++ [(⟨t266, ((l0.take (x14_25 : Int).toNat).drop (x10_1 : Int).toNat), ((l1.take (t249 : Int).toNat).drop (x11_1 : Int).toNat), ((l2.take (t250 : Int).toNat).drop (x12_1 : Int).toNat)⟩ : S33)]) x14_25 t249 t250) else (none))) else (none)) else (none)) else (none)) else (none)) else (none)) else (none)) else (none)) else (none)) else (none)) = some r := H
            have A39 := Aside0.mk A390
            clear A390
            by_cases c40 : 0 ≤ x10_1
            ·
             rw [if_pos c40] at H
             have c40b0 := eq_true c40
             have c40b1 : decide (0 ≤ x10_1) = true := decide_eq_true c40
             clear c40
             by_cases c41 : x10_1 ≤ x14_25
             ·
              rw [if_pos c41] at H
              have c41b0 := eq_true c41
              have c41b1 : decide (x10_1 ≤ x14_25) = true := decide_eq_true c41
              clear c41
              by_cases c42 : x14_25 ≤ (l0.length : Int)
              ·
               rw [if_pos c42] at H
               have c42b0 := eq_true c42
               have c42b1 : decide (x14_25 ≤ (l0.length : Int)) = true := decide_eq_true c42
               clear c42
               obtain ⟨y251, hy251⟩ : ∃ y_ : List ByteArray, y_ = ((l0.take (x14_25 : Int).toNat).drop (x10_1 : Int).toNat) := ⟨_, rfl⟩
               have Qy251 := Aside0.mk hy251
               replace H : (if 0 ≤ x11_1 then (if x11_1 ≤ t249 then (if t249 ≤ (l1.length : Int) then (if 0 ≤ x12_1 then (if x12_1 ≤ t250 then (if t250 ≤ (l2.length : Int) then ((pollardref19_kind.f kj25 y251 ((l1.take (t249 : Int).toNat).drop (x11_1 : Int).toNat) ((l2.take (t250 : Int).toNat).drop (x12_1 : Int).toNat)).bind fun t266 => (if x9_1.length < 1759218604441 then (pollardref19_Chunks.l0 kj25 l0 l1 l2 t236 t239 (x9_1 ++ [(⟨t266, ((l0.take (x14_25 : Int).toNat).drop (x10_1 : Int).toNat), ((l1.take (t249 : Int).toNat).drop (x11_1 : Int).toNat), ((l2.take (t250 : Int).toNat).drop (x12_1 : Int).toNat)⟩ : S33)]) x14_25 t249 t250) else (none))) else (none)) else (none)) else (none)) else (none)) else (none)) else (none)) = some r := by first | (rw [hy251]; with_reducible exact H) | (have H2_ := (Option.bind_some _ _).symm.trans H; rw [hy251]; with_reducible exact H2_) | (have H2_ := (Option.bind_some _ _).symm.trans H; with_reducible exact H2_) | with_reducible exact H | (rw [hy251]; exact H) | exact H
               have Ny251 := Aside0.mk hy251
               clear hy251
               by_cases c43 : 0 ≤ x11_1
               ·
                rw [if_pos c43] at H
                have c43b0 := eq_true c43
                have c43b1 : decide (0 ≤ x11_1) = true := decide_eq_true c43
                clear c43
                by_cases c44 : x11_1 ≤ t249
                ·
                 rw [if_pos c44] at H
                 have c44b0 := eq_true c44
                 have c44b1 : decide (x11_1 ≤ t249) = true := decide_eq_true c44
                 clear c44
                 by_cases c45 : t249 ≤ (l1.length : Int)
                 ·
                  rw [if_pos c45] at H
                  have c45b0 := eq_true c45
                  have c45b1 : decide (t249 ≤ (l1.length : Int)) = true := decide_eq_true c45
                  clear c45
                  obtain ⟨y256, hy256⟩ : ∃ y_ : List ByteArray, y_ = ((l1.take (t249 : Int).toNat).drop (x11_1 : Int).toNat) := ⟨_, rfl⟩
                  have Qy256 := Aside0.mk hy256
                  replace H : (if 0 ≤ x12_1 then (if x12_1 ≤ t250 then (if t250 ≤ (l2.length : Int) then ((pollardref19_kind.f kj25 y251 y256 ((l2.take (t250 : Int).toNat).drop (x12_1 : Int).toNat)).bind fun t266 => (if x9_1.length < 1759218604441 then (pollardref19_Chunks.l0 kj25 l0 l1 l2 t236 t239 (x9_1 ++ [(⟨t266, ((l0.take (x14_25 : Int).toNat).drop (x10_1 : Int).toNat), ((l1.take (t249 : Int).toNat).drop (x11_1 : Int).toNat), ((l2.take (t250 : Int).toNat).drop (x12_1 : Int).toNat)⟩ : S33)]) x14_25 t249 t250) else (none))) else (none)) else (none)) else (none)) = some r := by first | (rw [hy256]; with_reducible exact H) | (have H2_ := (Option.bind_some _ _).symm.trans H; rw [hy256]; with_reducible exact H2_) | (have H2_ := (Option.bind_some _ _).symm.trans H; with_reducible exact H2_) | with_reducible exact H | (rw [hy256]; exact H) | exact H
                  have Ny256 := Aside0.mk hy256
                  clear hy256
                  by_cases c46 : 0 ≤ x12_1
                  ·
                   rw [if_pos c46] at H
                   have c46b0 := eq_true c46
                   have c46b1 : decide (0 ≤ x12_1) = true := decide_eq_true c46
                   clear c46
                   by_cases c47 : x12_1 ≤ t250
                   ·
                    rw [if_pos c47] at H
                    have c47b0 := eq_true c47
                    have c47b1 : decide (x12_1 ≤ t250) = true := decide_eq_true c47
                    clear c47
                    by_cases c48 : t250 ≤ (l2.length : Int)
                    ·
                     rw [if_pos c48] at H
                     have c48b0 := eq_true c48
                     have c48b1 : decide (t250 ≤ (l2.length : Int)) = true := decide_eq_true c48
                     clear c48
                     obtain ⟨y261, hy261⟩ : ∃ y_ : List ByteArray, y_ = ((l2.take (t250 : Int).toNat).drop (x12_1 : Int).toNat) := ⟨_, rfl⟩
                     have Qy261 := Aside0.mk hy261
                     replace H : ((pollardref19_kind.f kj25 y251 y256 y261).bind fun t266 => (if x9_1.length < 1759218604441 then (pollardref19_Chunks.l0 kj25 l0 l1 l2 t236 t239 (x9_1 ++ [(⟨t266, ((l0.take (x14_25 : Int).toNat).drop (x10_1 : Int).toNat), ((l1.take (t249 : Int).toNat).drop (x11_1 : Int).toNat), ((l2.take (t250 : Int).toNat).drop (x12_1 : Int).toNat)⟩ : S33)]) x14_25 t249 t250) else (none))) = some r := by first | (rw [hy261]; with_reducible exact H) | (have H2_ := (Option.bind_some _ _).symm.trans H; rw [hy261]; with_reducible exact H2_) | (have H2_ := (Option.bind_some _ _).symm.trans H; with_reducible exact H2_) | with_reducible exact H | (rw [hy261]; exact H) | exact H
                     have Ny261 := Aside0.mk hy261
                     clear hy261
                     replace H := Option.bind_eq_some_iff.mp H
                     obtain ⟨t266, A490, H⟩ := H
                     replace H : (if x9_1.length < 1759218604441 then (pollardref19_Chunks.l0 kj25 l0 l1 l2 t236 t239 (x9_1 ++ [(⟨t266, ((l0.take (x14_25 : Int).toNat).drop (x10_1 : Int).toNat), ((l1.take (t249 : Int).toNat).drop (x11_1 : Int).toNat), ((l2.take (t250 : Int).toNat).drop (x12_1 : Int).toNat)⟩ : S33)]) x14_25 t249 t250) else (none)) = some r := H
                     have A49 := Aside0.mk A490
                     clear A490
                     have c50b0 := eq_true (of_decide_eq_true (by first | (with_reducible assumption) | assumption) : 0 ≤ x10_1)
                     have c51b0 := eq_true (of_decide_eq_true (by first | (with_reducible assumption) | assumption) : x10_1 ≤ x14_25)
                     have c52b0 := eq_true (of_decide_eq_true (by first | (with_reducible assumption) | assumption) : x14_25 ≤ (l0.length : Int))
                     obtain ⟨y267, hy267⟩ : ∃ y_ : List ByteArray, y_ = ((l0.take (x14_25 : Int).toNat).drop (x10_1 : Int).toNat) := ⟨_, rfl⟩
                     have Qy267 := Aside0.mk hy267
                     replace H : (if x9_1.length < 1759218604441 then (pollardref19_Chunks.l0 kj25 l0 l1 l2 t236 t239 (x9_1 ++ [(⟨t266, y267, ((l1.take (t249 : Int).toNat).drop (x11_1 : Int).toNat), ((l2.take (t250 : Int).toNat).drop (x12_1 : Int).toNat)⟩ : S33)]) x14_25 t249 t250) else (none)) = some r := by first | (rw [hy267]; with_reducible exact H) | (have H2_ := (Option.bind_some _ _).symm.trans H; rw [hy267]; with_reducible exact H2_) | (have H2_ := (Option.bind_some _ _).symm.trans H; with_reducible exact H2_) | with_reducible exact H | (rw [hy267]; exact H) | exact H
                     have Ny267 := Aside0.mk hy267
                     clear hy267
                     have c53b0 := eq_true (of_decide_eq_true (by first | (with_reducible assumption) | assumption) : 0 ≤ x11_1)
                     have c54b0 := eq_true (of_decide_eq_true (by first | (with_reducible assumption) | assumption) : x11_1 ≤ t249)
                     have c55b0 := eq_true (of_decide_eq_true (by first | (with_reducible assumption) | assumption) : t249 ≤ (l1.length : Int))
                     obtain ⟨y272, hy272⟩ : ∃ y_ : List ByteArray, y_ = ((l1.take (t249 : Int).toNat).drop (x11_1 : Int).toNat) := ⟨_, rfl⟩
                     have Qy272 := Aside0.mk hy272
                     replace H : (if x9_1.length < 1759218604441 then (pollardref19_Chunks.l0 kj25 l0 l1 l2 t236 t239 (x9_1 ++ [(⟨t266, y267, y272, ((l2.take (t250 : Int).toNat).drop (x12_1 : Int).toNat)⟩ : S33)]) x14_25 t249 t250) else (none)) = some r := by first | (rw [hy272]; with_reducible exact H) | (have H2_ := (Option.bind_some _ _).symm.trans H; rw [hy272]; with_reducible exact H2_) | (have H2_ := (Option.bind_some _ _).symm.trans H; with_reducible exact H2_) | with_reducible exact H | (rw [hy272]; exact H) | exact H
                     have Ny272 := Aside0.mk hy272
                     clear hy272
                     have c56b0 := eq_true (of_decide_eq_true (by first | (with_reducible assumption) | assumption) : 0 ≤ x12_1)
                     have c57b0 := eq_true (of_decide_eq_true (by first | (with_reducible assumption) | assumption) : x12_1 ≤ t250)
                     have c58b0 := eq_true (of_decide_eq_true (by first | (with_reducible assumption) | assumption) : t250 ≤ (l2.length : Int))
                     obtain ⟨y277, hy277⟩ : ∃ y_ : List ByteArray, y_ = ((l2.take (t250 : Int).toNat).drop (x12_1 : Int).toNat) := ⟨_, rfl⟩
                     have Qy277 := Aside0.mk hy277
                     replace H : (if x9_1.length < 1759218604441 then (pollardref19_Chunks.l0 kj25 l0 l1 l2 t236 t239 (x9_1 ++ [(⟨t266, y267, y272, y277⟩ : S33)]) x14_25 t249 t250) else (none)) = some r := by first | (rw [hy277]; with_reducible exact H) | (have H2_ := (Option.bind_some _ _).symm.trans H; rw [hy277]; with_reducible exact H2_) | (have H2_ := (Option.bind_some _ _).symm.trans H; with_reducible exact H2_) | with_reducible exact H | (rw [hy277]; exact H) | exact H
                     have Ny277 := Aside0.mk hy277
                     clear hy277
                     by_cases c59 : x9_1.length < 1759218604441
                     ·
                      rw [if_pos c59] at H
                      have LMc59 := Aside0.mk c59
                      clear c59
                      obtain ⟨y282, hy282⟩ : ∃ y_ : List (S33), y_ = (x9_1 ++ [(⟨t266, y267, y272, y277⟩ : S33)]) := ⟨_, rfl⟩
                      replace H : (pollardref19_Chunks.l0 kj25 l0 l1 l2 t236 t239 y282 x14_25 t249 t250) = some r := by first | (rw [hy282]; with_reducible exact H) | (have H2_ := (Option.bind_some _ _).symm.trans H; rw [hy282]; with_reducible exact H2_) | (have H2_ := (Option.bind_some _ _).symm.trans H; with_reducible exact H2_) | with_reducible exact H | (rw [hy282]; exact H) | exact H
                      have Ny282 := Aside0.mk hy282
                      clear hy282
                      have H' := Aside0.mk H
                      clear H
                      obtain ⟨Ao60, co60, eo60⟩ := Kd.R_slice HO_7.out
                      subst eo60
                      try go_wp2_with (first | ((with_reducible refine gate_callee (f := 22) rfl ?_); refine goesL_ (some 110) rfl rfl Tryd.func22 (by kernel_rfl) rfl #[.slice Ao60 t236.length co60, .int .i64 x14_25] rfl (by (try simp only [List.map_toArray, List.map_cons, List.map_nil]); first | done | rfl | (simp only [List.length_drop, List.length_take]; rfl)) ?_; (with_reducible refine (pollardref19_partner.calls kj25 _ _ t236 x14_25 t249 _ ?side1 ?side2 A38.out).mono ?_); (case side1 => repeat (first | exact (Kd.R_reads' HO_7.out).2.2 | (with_reducible refine Kd.C_alloc ?_ _) | (with_reducible refine Kd.C_drewN ?_ _) | (with_reducible refine Kd.C_drew ?_))); (case side2 => exact (Kd.R_reads' HO_7.out).2.1); rintro e w' ⟨rfl, ⟨nd, rfl⟩⟩; refine ⟨_, rfl, ?_⟩; obtain ⟨Ao61, co61, eo61⟩ := Kd.R_slice HO_8.out; subst eo61) | ((with_reducible refine gate_callee (f := 22) rfl ?_); refine goesL_ (some 113) rfl rfl Tryd.func22 (by kernel_rfl) rfl #[.slice Ao61 t239.length co61, .int .i64 x14_25] rfl (by (try simp only [List.map_toArray, List.map_cons, List.map_nil]); first | done | rfl | (simp only [List.length_drop, List.length_take]; rfl)) ?_; (with_reducible refine (pollardref19_partner.calls kj25 _ _ t239 x14_25 t250 _ ?side1 ?side2 A39.out).mono ?_); (case side1 => repeat (first | exact (Kd.R_reads' HO_8.out).2.2 | (with_reducible refine Kd.C_alloc ?_ _) | (with_reducible refine Kd.C_drewN ?_ _) | (with_reducible refine Kd.C_drew ?_))); (case side2 => exact (Kd.R_reads' HO_8.out).2.1); rintro e w' ⟨rfl, ⟨nd, rfl⟩⟩; refine ⟨_, rfl, ?_⟩))
                      (try (rw [drewN_self wc]; generalize hq_ : World.drewN wc _ = wc; have n0_ : Aside0 (Kd.V Kd.string 9 wc w.heap.size (fun k_ => ((P0_ k_ ∨ P1_ k_ ∨ P2_ k_) ∨ w.heap.size ≤ k_) ∧ some k_ ≠ (.slice Ao60 t236.length co60 : Value).ownBlock ∧ some k_ ≠ (.slice Ao61 t239.length co61 : Value).ownBlock ∧ some k_ ≠ (u9 : Value).ownBlock) (.slice A0 l0.length c0) l0) := ⟨by rw [← hq_]; exact (by (with_reducible repeat (first | apply Kd.V_alloc | apply Kd.V_drewN | apply Kd.V_drew)); exact HO_0.out)⟩; have n1_ : Aside0 (Kd.V Kd.string 9 wc w.heap.size (fun k_ => ((P0_ k_ ∨ P1_ k_ ∨ P2_ k_) ∨ w.heap.size ≤ k_) ∧ some k_ ≠ (.slice Ao60 t236.length co60 : Value).ownBlock ∧ some k_ ≠ (.slice Ao61 t239.length co61 : Value).ownBlock ∧ some k_ ≠ (u9 : Value).ownBlock) (.slice A1 l1.length c1) l1) := ⟨by rw [← hq_]; exact (by (with_reducible repeat (first | apply Kd.V_alloc | apply Kd.V_drewN | apply Kd.V_drew)); exact HO_1.out)⟩; have n2_ : Aside0 (Kd.V Kd.string 9 wc w.heap.size (fun k_ => ((P0_ k_ ∨ P1_ k_ ∨ P2_ k_) ∨ w.heap.size ≤ k_) ∧ some k_ ≠ (.slice Ao60 t236.length co60 : Value).ownBlock ∧ some k_ ≠ (.slice Ao61 t239.length co61 : Value).ownBlock ∧ some k_ ≠ (u9 : Value).ownBlock) (.slice A2 l2.length c2) l2) := ⟨by rw [← hq_]; exact (by (with_reducible repeat (first | apply Kd.V_alloc | apply Kd.V_drewN | apply Kd.V_drew)); exact HO_2.out)⟩; have n3_ : Aside0 (Kd.R k70 70 wc w.heap.size (fun k_ => (w.heap.size ≤ k_) ∧ some k_ ≠ (.slice Ao61 t239.length co61 : Value).ownBlock) (.slice Ao60 t236.length co60) t236) := ⟨by rw [← hq_]; exact (by (with_reducible repeat (first | apply Kd.R_alloc | apply Kd.R_drewN | apply Kd.R_drew)); exact HO_7.out)⟩; have n4_ : Aside0 (Kd.R k70 70 wc w.heap.size (fun k_ => (w.heap.size ≤ k_) ∧ some k_ ≠ (.slice Ao60 t236.length co60 : Value).ownBlock) (.slice Ao61 t239.length co61) t239) := ⟨by rw [← hq_]; exact (by (with_reducible repeat (first | apply Kd.R_alloc | apply Kd.R_drewN | apply Kd.R_drew)); exact HO_8.out)⟩; have n5_ : Aside0 (Kd.N k33 33 wc w.heap.size (fun k_ => ((P0_ k_ ∨ P1_ k_ ∨ P2_ k_) ∨ w.heap.size ≤ k_) ∧ some k_ ≠ (.slice Ao60 t236.length co60 : Value).ownBlock ∧ some k_ ≠ (.slice Ao61 t239.length co61 : Value).ownBlock) u9 x9_1) := ⟨by rw [← hq_]; exact (by (with_reducible repeat (first | apply Kd.N_alloc | apply Kd.N_drewN | apply Kd.N_drew)); exact HO_9.out)⟩; have n6_ : Aside0 (Below w.heap.size w wc) := ⟨by rw [← hq_]; exact (by repeat (first | (with_reducible first | exact HB.out | apply below_alloc | apply pw_below_drewN | apply below_drew1) | exact HB.out))⟩; clear HO_0 HO_1 HO_2 HO_7 HO_8 HO_9 HB hq_; have HO_0 := n0_; have HO_1 := n1_; have HO_2 := n2_; have HO_7 := n3_; have HO_8 := n4_; have HO_9 := n5_; have HB := n6_; clear n0_ n1_ n2_ n3_ n4_ n5_ n6_))
                      have n0_ := Aside0.mk (Kd.V_drew HO_0.out)
                      have n1_ := Aside0.mk (Kd.V_drew HO_1.out)
                      have n2_ := Aside0.mk (Kd.V_drew HO_2.out)
                      have n3_ := Aside0.mk (Kd.R_drew HO_7.out)
                      have n4_ := Aside0.mk (Kd.R_drew HO_8.out)
                      have n5_ := Aside0.mk (Kd.N_drew HO_9.out)
                      have n6_ := Aside0.mk (below_drew1 HB.out)
                      clear HO_0
                      clear HO_1
                      clear HO_2
                      clear HO_7
                      clear HO_8
                      clear HO_9
                      clear HB
                      have HO_0 := n0_
                      have HO_1 := n1_
                      have HO_2 := n2_
                      have HO_7 := n3_
                      have HO_8 := n4_
                      have HO_9 := n5_
                      have HB := n6_
                      clear n0_ n1_ n2_ n3_ n4_ n5_ n6_
                      have q63 : (x14_25 : Int) ≤ ((l0.length : Int) : Int) := of_decide_eq_true (by first | (with_reducible assumption) | assumption)
                      obtain ⟨i063, hi063, _, hsz63, _⟩ := info_parts info9
                      have hroom63 : l0.length ≤ c0 := (Kd.V_reads' HO_0.out).2.1
                      have hC63 : Kd.F Kd.string _ _ A0 l0.length l0 := (Kd.V_at (base := w.heap.size) HO_0.out).2.2
                      have ql63 : (x10_1 : Int) ≤ (x14_25 : Int) := of_decide_eq_true (by first | (with_reducible assumption) | assumption)
                      have q063 : (0 : Int) ≤ (x10_1 : Int) := of_decide_eq_true (by first | (with_reducible assumption) | assumption)
                      have hcut63 := cut_mid (P := Tryd.prog) 22 9 .i64 .i64 Tryd.underlying22 hi063 1 hsz63 A0 l0.length c0 x10_1 x14_25 q063 ql63 q63 hroom63
                      have hr63 := Kd.F_mid (lo := (x10_1 : Int).toNat) (hi := (x14_25 : Int).toNat) (c := c0) hC63 (by omega) (by omega) hroom63
                      obtain ⟨A63, hA63⟩ : ∃ Az_, Az_ = (if c0 = (x10_1 : Int).toNat then A0 else (A0 : Option Addr).map (·.add ((x10_1 : Int).toNat * 1))) := ⟨_, rfl⟩
                      have QA63 := Aside0.mk hA63
                      obtain ⟨c63, hc63⟩ : ∃ cz_, cz_ = c0 - (x10_1 : Int).toNat := ⟨_, rfl⟩
                      have QC63 := Aside0.mk hc63
                      have hy63 : y251.length = (x14_25 : Int).toNat - (x10_1 : Int).toNat := (by rw [Ny251.out, List.length_drop, List.length_take] <;> omega)
                      rw [show ((l0).take (x14_25 : Int).toNat).drop (x10_1 : Int).toNat = y251 from Ny251.out.symm] at hr63
                      replace hr63 : Kd.F Kd.string _ _ A63 y251.length y251 := (by rw [hA63]; exact hr63)
                      rw [← hy63, ← hA63, ← hc63] at hcut63
                      have HO255 := Aside0.mk (show Kd.V Kd.string 9 _ w.heap.size _ (.slice A63 y251.length c63) y251 from Kd.V_mk (by rw [hy63, hc63]; exact Nat.sub_le_sub_right (Nat.le_trans (by omega) hroom63) _) hr63)
                      have HC255 := Aside0.mk (show y251.length ≤ c63 from by rw [hy63, hc63]; exact Nat.sub_le_sub_right (Nat.le_trans (by omega) hroom63) _)
                      clear hr63 hC63 hroom63 hi063 hsz63 hc63
                      have KY63 := Aside0.mk hy63
                      have KA63 := Aside0.mk hA63
                      clear hy63 hA63
                      replace q63 := eq_true q63
                      have q64 : (t249 : Int) ≤ ((l1.length : Int) : Int) := of_decide_eq_true (by first | (with_reducible assumption) | assumption)
                      obtain ⟨i064, hi064, _, hsz64, _⟩ := info_parts info9
                      have hroom64 : l1.length ≤ c1 := (Kd.V_reads' HO_1.out).2.1
                      have hC64 : Kd.F Kd.string _ _ A1 l1.length l1 := (Kd.V_at (base := w.heap.size) HO_1.out).2.2
                      have ql64 : (x11_1 : Int) ≤ (t249 : Int) := of_decide_eq_true (by first | (with_reducible assumption) | assumption)
                      have q064 : (0 : Int) ≤ (x11_1 : Int) := of_decide_eq_true (by first | (with_reducible assumption) | assumption)
                      have hcut64 := cut_mid (P := Tryd.prog) 22 9 .i64 .i64 Tryd.underlying22 hi064 1 hsz64 A1 l1.length c1 x11_1 t249 q064 ql64 q64 hroom64
                      have hr64 := Kd.F_mid (lo := (x11_1 : Int).toNat) (hi := (t249 : Int).toNat) (c := c1) hC64 (by omega) (by omega) hroom64
                      obtain ⟨A64, hA64⟩ : ∃ Az_, Az_ = (if c1 = (x11_1 : Int).toNat then A1 else (A1 : Option Addr).map (·.add ((x11_1 : Int).toNat * 1))) := ⟨_, rfl⟩
                      have QA64 := Aside0.mk hA64
                      obtain ⟨c64, hc64⟩ : ∃ cz_, cz_ = c1 - (x11_1 : Int).toNat := ⟨_, rfl⟩
                      have QC64 := Aside0.mk hc64
                      have hy64 : y256.length = (t249 : Int).toNat - (x11_1 : Int).toNat := (by rw [Ny256.out, List.length_drop, List.length_take] <;> omega)
                      rw [show ((l1).take (t249 : Int).toNat).drop (x11_1 : Int).toNat = y256 from Ny256.out.symm] at hr64
                      replace hr64 : Kd.F Kd.string _ _ A64 y256.length y256 := (by rw [hA64]; exact hr64)
                      rw [← hy64, ← hA64, ← hc64] at hcut64
                      have HO260 := Aside0.mk (show Kd.V Kd.string 9 _ w.heap.size _ (.slice A64 y256.length c64) y256 from Kd.V_mk (by rw [hy64, hc64]; exact Nat.sub_le_sub_right (Nat.le_trans (by omega) hroom64) _) hr64)
                      have HC260 := Aside0.mk (show y256.length ≤ c64 from by rw [hy64, hc64]; exact Nat.sub_le_sub_right (Nat.le_trans (by omega) hroom64) _)
                      clear hr64 hC64 hroom64 hi064 hsz64 hc64
                      have KY64 := Aside0.mk hy64
                      have KA64 := Aside0.mk hA64
                      clear hy64 hA64
                      replace q64 := eq_true q64
                      have q65 : (t250 : Int) ≤ ((l2.length : Int) : Int) := of_decide_eq_true (by first | (with_reducible assumption) | assumption)
                      obtain ⟨i065, hi065, _, hsz65, _⟩ := info_parts info9
                      have hroom65 : l2.length ≤ c2 := (Kd.V_reads' HO_2.out).2.1
                      have hC65 : Kd.F Kd.string _ _ A2 l2.length l2 := (Kd.V_at (base := w.heap.size) HO_2.out).2.2
                      have ql65 : (x12_1 : Int) ≤ (t250 : Int) := of_decide_eq_true (by first | (with_reducible assumption) | assumption)
                      have q065 : (0 : Int) ≤ (x12_1 : Int) := of_decide_eq_true (by first | (with_reducible assumption) | assumption)
                      have hcut65 := cut_mid (P := Tryd.prog) 22 9 .i64 .i64 Tryd.underlying22 hi065 1 hsz65 A2 l2.length c2 x12_1 t250 q065 ql65 q65 hroom65
                      have hr65 := Kd.F_mid (lo := (x12_1 : Int).toNat) (hi := (t250 : Int).toNat) (c := c2) hC65 (by omega) (by omega) hroom65
                      obtain ⟨A65, hA65⟩ : ∃ Az_, Az_ = (if c2 = (x12_1 : Int).toNat then A2 else (A2 : Option Addr).map (·.add ((x12_1 : Int).toNat * 1))) := ⟨_, rfl⟩
                      have QA65 := Aside0.mk hA65
                      obtain ⟨c65, hc65⟩ : ∃ cz_, cz_ = c2 - (x12_1 : Int).toNat := ⟨_, rfl⟩
                      have QC65 := Aside0.mk hc65
                      have hy65 : y261.length = (t250 : Int).toNat - (x12_1 : Int).toNat := (by rw [Ny261.out, List.length_drop, List.length_take] <;> omega)
                      rw [show ((l2).take (t250 : Int).toNat).drop (x12_1 : Int).toNat = y261 from Ny261.out.symm] at hr65
                      replace hr65 : Kd.F Kd.string _ _ A65 y261.length y261 := (by rw [hA65]; exact hr65)
                      rw [← hy65, ← hA65, ← hc65] at hcut65
                      have HO265 := Aside0.mk (show Kd.V Kd.string 9 _ w.heap.size _ (.slice A65 y261.length c65) y261 from Kd.V_mk (by rw [hy65, hc65]; exact Nat.sub_le_sub_right (Nat.le_trans (by omega) hroom65) _) hr65)
                      have HC265 := Aside0.mk (show y261.length ≤ c65 from by rw [hy65, hc65]; exact Nat.sub_le_sub_right (Nat.le_trans (by omega) hroom65) _)
                      clear hr65 hC65 hroom65 hi065 hsz65 hc65
                      have KY65 := Aside0.mk hy65
                      have KA65 := Aside0.mk hA65
                      clear hy65 hA65
                      replace q65 := eq_true q65
                      refine start_ (n := 14) (S := fun w' => True) (ds := []) #[false, false, false, false, false, false, false, false, false, false, false, false, false, false] (by kernel_rfl) rfl rfl trivial (fun hHeld => ?_); refine with_tabW pollardref19_Chunks.tab14 pollardref19_Chunks.bits14 (fun HT_ HW_ => ?_)
                      generalize wc.drew = w62 at HO_0 HO_1 HO_2 HO_7 HO_8 HO_9 HB HO255 HO260 HO265 hHeld ⊢
                      refine pure_ (i := 0) (N := some 114) (v := ?_) (a' := ?_) #[true, false, false, false, false, false, false, false, false, false, false, false, false, false] rfl rfl (any_of HT_.out (by kernel_rfl)) (fun _ _ _ h => h) (Or.inl ⟨by rfl, ?_⟩) ?_ ?_
                      rotate_left
                      · intro w'
                        go_simp
                        with_reducible rfl
                      rotate_left
                      · simp only [Act.put, List.setIfInBounds_toArray, List.set_cons_zero, List.set_cons_succ, i64_w, i32_w]
                        rfl
                      refine pure_ (i := 1) (N := some 115) (v := ?_) (a' := ?_) #[true, true, false, false, false, false, false, false, false, false, false, false, false, false] rfl rfl (any_of HT_.out (by kernel_rfl)) (fun _ _ _ h => h) (Or.inl ⟨by rfl, ?_⟩) ?_ ?_
                      rotate_left
                      · intro w'
                        go_simp
                        with_reducible rfl
                      rotate_left
                      · simp only [Act.put, List.setIfInBounds_toArray, List.set_cons_zero, List.set_cons_succ, i64_w, i32_w]
                        rfl
                      refine pure_ (i := 2) (N := some 116) (v := ?_) (a' := ?_) #[true, true, true, false, false, false, false, false, false, false, false, false, false, false] rfl rfl (any_of HT_.out (by kernel_rfl)) (fun _ _ _ h => h) (Or.inl ⟨by rfl, ?_⟩) ?_ ?_
                      rotate_left
                      · intro w'
                        go_simp
                        with_reducible rfl
                      rotate_left
                      · simp only [Act.put, List.setIfInBounds_toArray, List.set_cons_zero, List.set_cons_succ, i64_w, i32_w]
                        rfl
                      refine pure_ (i := 3) (N := some 117) (v := ?_) (a' := ?_) #[true, true, true, true, false, false, false, false, false, false, false, false, false, false] rfl rfl (any_of HT_.out (by kernel_rfl)) (fun _ _ _ h => h) (Or.inl ⟨by rfl, ?_⟩) ?_ ?_
                      rotate_left
                      · intro w'
                        go_simp
                        with_reducible rfl
                      rotate_left
                      · simp only [Act.put, List.setIfInBounds_toArray, List.set_cons_zero, List.set_cons_succ, i64_w, i32_w]
                        rfl
                      refine pure_ (i := 4) (N := some 118) (v := ?_) (a' := ?_) #[true, true, true, true, true, false, false, false, false, false, false, false, false, false] rfl rfl (any_of HT_.out (by kernel_rfl)) (fun _ _ _ h => h) (Or.inl ⟨by rfl, ?_⟩) ?_ ?_
                      rotate_left
                      · intro w'
                        go_simp
                        with_reducible rfl
                      rotate_left
                      · simp only [Act.put, List.setIfInBounds_toArray, List.set_cons_zero, List.set_cons_succ, i64_w, i32_w]
                        rfl
                      refine pure_ (i := 5) (N := some 119) (v := ?_) (a' := ?_) #[true, true, true, true, true, true, false, false, false, false, false, false, false, false] rfl rfl (any_of HT_.out (by kernel_rfl)) (fun _ _ _ h => h) (Or.inl ⟨by rfl, ?_⟩) ?_ ?_
                      rotate_left
                      · intro w'
                        go_simp
                        with_reducible rfl
                      rotate_left
                      · simp only [Act.put, List.setIfInBounds_toArray, List.set_cons_zero, List.set_cons_succ, i64_w, i32_w]
                        rfl
                      refine pure_ (i := 6) (N := some 120) (v := ?_) (a' := ?_) #[true, true, true, true, true, true, true, false, false, false, false, false, false, false] rfl rfl (any_of HT_.out (by kernel_rfl)) (fun _ _ _ h => h) (Or.inl ⟨by rfl, ?_⟩) ?_ ?_
                      rotate_left
                      · intro w'
                        go_simp
                        with_reducible rfl
                      rotate_left
                      · simp only [Act.put, List.setIfInBounds_toArray, List.set_cons_zero, List.set_cons_succ, i64_w, i32_w]
                        rfl
                      refine pure_ (i := 7) (N := some 121) (v := ?_) (a' := ?_) #[true, true, true, true, true, true, true, true, false, false, false, false, false, false] rfl rfl (any_of HT_.out (by kernel_rfl)) (fun _ _ _ h => h) (Or.inl ⟨by rfl, ?_⟩) ?_ ?_
                      rotate_left
                      · intro w'
                        go_simp
                        with_reducible rfl
                      rotate_left
                      · simp only [Act.put, List.setIfInBounds_toArray, List.set_cons_zero, List.set_cons_succ, i64_w, i32_w]
                        rfl
                      refine pure_ (i := 8) (N := some 122) (v := ?_) (a' := ?_) #[true, true, true, true, true, true, true, true, true, false, false, false, false, false] rfl rfl (any_of HT_.out (by kernel_rfl)) (fun _ _ _ h => h) (Or.inl ⟨by rfl, ?_⟩) ?_ ?_
                      rotate_left
                      · intro w'
                        go_simp
                        with_reducible rfl
                      rotate_left
                      · simp only [Act.put, List.setIfInBounds_toArray, List.set_cons_zero, List.set_cons_succ, i64_w, i32_w]
                        rfl
                      refine pure_ (i := 9) (N := some 123) (v := ?_) (a' := ?_) #[true, true, true, true, true, true, true, true, true, true, false, false, false, false] rfl rfl (any_of HT_.out (by kernel_rfl)) (fun _ _ _ h => h) (Or.inl ⟨by rfl, ?_⟩) ?_ ?_
                      rotate_left
                      · intro w'
                        go_simp
                        with_reducible rfl
                      rotate_left
                      · simp only [Act.put, List.setIfInBounds_toArray, List.set_cons_zero, List.set_cons_succ, i64_w, i32_w]
                        rfl
                      refine pure_ (i := 10) (N := some 124) (v := ?_) (a' := ?_) #[true, true, true, true, true, true, true, true, true, true, true, false, false, false] rfl rfl (any_of HT_.out (by kernel_rfl)) (fun _ _ _ h => h) (Or.inl ⟨by rfl, ?_⟩) ?_ ?_
                      rotate_left
                      · intro w'
                        go_simp
                        with_reducible rfl
                      rotate_left
                      · simp only [Act.put, List.setIfInBounds_toArray, List.set_cons_zero, List.set_cons_succ, i64_w, i32_w]
                        rfl
                      refine pure_ (i := 11) (N := some 125) (v := ?_) (a' := ?_) #[true, true, true, true, true, true, true, true, true, true, true, true, false, false] rfl rfl (any_of HT_.out (by kernel_rfl)) (fun _ _ _ h => h) (Or.inl ⟨by rfl, ?_⟩) ?_ ?_
                      rotate_left
                      · intro w'
                        go_simp
                        with_reducible rfl
                      rotate_left
                      · simp only [Act.put, List.setIfInBounds_toArray, List.set_cons_zero, List.set_cons_succ, i64_w, i32_w]
                        rfl
                      refine one_ (i := 12) (N := some 126) #[true, true, true, true, true, true, true, true, true, true, true, true, true, false] rfl rfl (one_of HT_.out (by kernel_rfl)) (by decide) (fun K hK => ?_)
                      refine goes_ Tryd.func23 (by kernel_rfl) rfl #[.slice A63 y251.length c63, .slice A64 y256.length c64, .slice A65 y261.length c65] (by rfl) rfl rfl (by (try simp only [List.map_toArray, List.map_cons, List.map_nil]); first | done | rfl | (simp only [List.length_drop, List.length_take]; rfl)) ?_
                      with_reducible refine (pollardref19_kind.calls kj25 _ _ y251 _ _ y256 _ _ y261 t266 _ ?side1 ?side2 ?side3 ?side4 ?side5 ?side6 A49.out).mono ?_
                      (case side1 => repeat (first | exact (Kd.V_reads' HO255.out).2.2 | (with_reducible refine Kd.C_alloc ?_ _) | (with_reducible refine Kd.C_drewN ?_ _) | (with_reducible refine Kd.C_drew ?_)))
                      (case side2 => exact (Kd.V_reads' HO255.out).2.1)
                      (case side3 => repeat (first | exact (Kd.V_reads' HO260.out).2.2 | (with_reducible refine Kd.C_alloc ?_ _) | (with_reducible refine Kd.C_drewN ?_ _) | (with_reducible refine Kd.C_drew ?_)))
                      (case side4 => exact (Kd.V_reads' HO260.out).2.1)
                      (case side5 => repeat (first | exact (Kd.V_reads' HO265.out).2.2 | (with_reducible refine Kd.C_alloc ?_ _) | (with_reducible refine Kd.C_drewN ?_ _) | (with_reducible refine Kd.C_drew ?_)))
                      (case side6 => exact (Kd.V_reads' HO265.out).2.1)
                      rintro e w' ⟨rfl, ⟨nd, rfl⟩⟩
                      refine ⟨_, rfl, ?_⟩
                      refine hK.out _ _ trivial (fun hHeld => ?_)
                      clear hK K
                      refine norm_ (a' := ?_) ?_ ?_
                      rotate_left
                      · show Act.put _ (some 126) _ = _
                        simp only [Act.put, List.setIfInBounds_toArray, List.set_cons_zero, List.set_cons_succ, i64_w, i32_w]
                        rfl
                      refine pure_ (i := 13) (N := some 17) (v := ?_) (a' := ?_) #[true, true, true, true, true, true, true, true, true, true, true, true, true, true] rfl rfl (any_of HT_.out (by kernel_rfl)) (fun _ _ _ h => h) (Or.inl ⟨by rfl, ?_⟩) ?_ ?_
                      rotate_left
                      · intro w'
                        go_simp
                        with_reducible rfl
                      rotate_left
                      · simp only [Act.put, List.setIfInBounds_toArray, List.set_cons_zero, List.set_cons_succ, i64_w, i32_w]
                        rfl
                      refine done_ (done_of HT_.out (by kernel_rfl)) ?_
                      try go_wp2
                      (try (rw [drewN_self w62]; generalize hq_ : World.drewN w62 _ = w62; have n0_ : Aside0 (Kd.V Kd.string 9 w62 w.heap.size (fun k_ => ((P0_ k_ ∨ P1_ k_ ∨ P2_ k_) ∨ w.heap.size ≤ k_) ∧ some k_ ≠ (.slice Ao60 t236.length co60 : Value).ownBlock ∧ some k_ ≠ (.slice Ao61 t239.length co61 : Value).ownBlock ∧ some k_ ≠ (u9 : Value).ownBlock) (.slice A63 y251.length c63) y251) := ⟨by rw [← hq_]; exact (by (with_reducible repeat (first | apply Kd.V_alloc | apply Kd.V_drewN | apply Kd.V_drew)); exact HO255.out)⟩; have n1_ : Aside0 (Kd.V Kd.string 9 w62 w.heap.size (fun k_ => ((P0_ k_ ∨ P1_ k_ ∨ P2_ k_) ∨ w.heap.size ≤ k_) ∧ some k_ ≠ (.slice Ao60 t236.length co60 : Value).ownBlock ∧ some k_ ≠ (.slice Ao61 t239.length co61 : Value).ownBlock ∧ some k_ ≠ (u9 : Value).ownBlock) (.slice A64 y256.length c64) y256) := ⟨by rw [← hq_]; exact (by (with_reducible repeat (first | apply Kd.V_alloc | apply Kd.V_drewN | apply Kd.V_drew)); exact HO260.out)⟩; have n2_ : Aside0 (Kd.V Kd.string 9 w62 w.heap.size (fun k_ => ((P0_ k_ ∨ P1_ k_ ∨ P2_ k_) ∨ w.heap.size ≤ k_) ∧ some k_ ≠ (.slice Ao60 t236.length co60 : Value).ownBlock ∧ some k_ ≠ (.slice Ao61 t239.length co61 : Value).ownBlock ∧ some k_ ≠ (u9 : Value).ownBlock) (.slice A65 y261.length c65) y261) := ⟨by rw [← hq_]; exact (by (with_reducible repeat (first | apply Kd.V_alloc | apply Kd.V_drewN | apply Kd.V_drew)); exact HO265.out)⟩; have n3_ : Aside0 (Kd.V Kd.string 9 w62 w.heap.size (fun k_ => ((P0_ k_ ∨ P1_ k_ ∨ P2_ k_) ∨ w.heap.size ≤ k_) ∧ some k_ ≠ (.slice Ao60 t236.length co60 : Value).ownBlock ∧ some k_ ≠ (.slice Ao61 t239.length co61 : Value).ownBlock ∧ some k_ ≠ (u9 : Value).ownBlock) (.slice A0 l0.length c0) l0) := ⟨by rw [← hq_]; exact (by (with_reducible repeat (first | apply Kd.V_alloc | apply Kd.V_drewN | apply Kd.V_drew)); exact HO_0.out)⟩; have n4_ : Aside0 (Kd.V Kd.string 9 w62 w.heap.size (fun k_ => ((P0_ k_ ∨ P1_ k_ ∨ P2_ k_) ∨ w.heap.size ≤ k_) ∧ some k_ ≠ (.slice Ao60 t236.length co60 : Value).ownBlock ∧ some k_ ≠ (.slice Ao61 t239.length co61 : Value).ownBlock ∧ some k_ ≠ (u9 : Value).ownBlock) (.slice A1 l1.length c1) l1) := ⟨by rw [← hq_]; exact (by (with_reducible repeat (first | apply Kd.V_alloc | apply Kd.V_drewN | apply Kd.V_drew)); exact HO_1.out)⟩; have n5_ : Aside0 (Kd.V Kd.string 9 w62 w.heap.size (fun k_ => ((P0_ k_ ∨ P1_ k_ ∨ P2_ k_) ∨ w.heap.size ≤ k_) ∧ some k_ ≠ (.slice Ao60 t236.length co60 : Value).ownBlock ∧ some k_ ≠ (.slice Ao61 t239.length co61 : Value).ownBlock ∧ some k_ ≠ (u9 : Value).ownBlock) (.slice A2 l2.length c2) l2) := ⟨by rw [← hq_]; exact (by (with_reducible repeat (first | apply Kd.V_alloc | apply Kd.V_drewN | apply Kd.V_drew)); exact HO_2.out)⟩; have n6_ : Aside0 (Kd.R k70 70 w62 w.heap.size (fun k_ => (w.heap.size ≤ k_) ∧ some k_ ≠ (.slice Ao61 t239.length co61 : Value).ownBlock) (.slice Ao60 t236.length co60) t236) := ⟨by rw [← hq_]; exact (by (with_reducible repeat (first | apply Kd.R_alloc | apply Kd.R_drewN | apply Kd.R_drew)); exact HO_7.out)⟩; have n7_ : Aside0 (Kd.R k70 70 w62 w.heap.size (fun k_ => (w.heap.size ≤ k_) ∧ some k_ ≠ (.slice Ao60 t236.length co60 : Value).ownBlock) (.slice Ao61 t239.length co61) t239) := ⟨by rw [← hq_]; exact (by (with_reducible repeat (first | apply Kd.R_alloc | apply Kd.R_drewN | apply Kd.R_drew)); exact HO_8.out)⟩; have n8_ : Aside0 (Kd.N k33 33 w62 w.heap.size (fun k_ => ((P0_ k_ ∨ P1_ k_ ∨ P2_ k_) ∨ w.heap.size ≤ k_) ∧ some k_ ≠ (.slice Ao60 t236.length co60 : Value).ownBlock ∧ some k_ ≠ (.slice Ao61 t239.length co61 : Value).ownBlock) u9 x9_1) := ⟨by rw [← hq_]; exact (by (with_reducible repeat (first | apply Kd.N_alloc | apply Kd.N_drewN | apply Kd.N_drew)); exact HO_9.out)⟩; have n9_ : Aside0 (Below w.heap.size w w62) := ⟨by rw [← hq_]; exact (by repeat (first | (with_reducible first | exact HB.out | apply below_alloc | apply pw_below_drewN | apply below_drew1) | exact HB.out))⟩; clear HO255 HO260 HO265 HO_0 HO_1 HO_2 HO_7 HO_8 HO_9 HB hq_; have HO255 := n0_; have HO260 := n1_; have HO265 := n2_; have HO_0 := n3_; have HO_1 := n4_; have HO_2 := n5_; have HO_7 := n6_; have HO_8 := n7_; have HO_9 := n8_; have HB := n9_; clear n0_ n1_ n2_ n3_ n4_ n5_ n6_ n7_ n8_ n9_))
                      have n0_ := Aside0.mk (Kd.V_drew HO_0.out)
                      have n1_ := Aside0.mk (Kd.V_drew HO_1.out)
                      have n2_ := Aside0.mk (Kd.V_drew HO_2.out)
                      have n3_ := Aside0.mk (Kd.R_drew HO_7.out)
                      have n4_ := Aside0.mk (Kd.R_drew HO_8.out)
                      have n5_ := Aside0.mk (Kd.N_drew HO_9.out)
                      have n6_ := Aside0.mk (Kd.V_drew HO255.out)
                      have n7_ := Aside0.mk (Kd.V_drew HO260.out)
                      have n8_ := Aside0.mk (Kd.V_drew HO265.out)
                      have n9_ := Aside0.mk (below_drew1 HB.out)
                      clear HO_0
                      clear HO_1
                      clear HO_2
                      clear HO_7
                      clear HO_8
                      clear HO_9
                      clear HO255
                      clear HO260
                      clear HO265
                      clear HB
                      have HO_0 := n0_
                      have HO_1 := n1_
                      have HO_2 := n2_
                      have HO_7 := n3_
                      have HO_8 := n4_
                      have HO_9 := n5_
                      have HO255 := n6_
                      have HO260 := n7_
                      have HO265 := n8_
                      have HB := n9_
                      clear n0_ n1_ n2_ n3_ n4_ n5_ n6_ n7_ n8_ n9_
                      have q67 : (x14_25 : Int) ≤ ((l0.length : Int) : Int) := of_decide_eq_true (by first | (with_reducible assumption) | assumption)
                      obtain ⟨i067, hi067, _, hsz67, _⟩ := info_parts info9
                      have hroom67 : l0.length ≤ c0 := (Kd.V_reads' HO_0.out).2.1
                      have hC67 : Kd.F Kd.string _ _ A0 l0.length l0 := (Kd.V_at (base := w.heap.size) HO_0.out).2.2
                      have ql67 : (x10_1 : Int) ≤ (x14_25 : Int) := of_decide_eq_true (by first | (with_reducible assumption) | assumption)
                      have q067 : (0 : Int) ≤ (x10_1 : Int) := of_decide_eq_true (by first | (with_reducible assumption) | assumption)
                      have hcut67 := cut_mid (P := Tryd.prog) 22 9 .i64 .i64 Tryd.underlying22 hi067 1 hsz67 A0 l0.length c0 x10_1 x14_25 q067 ql67 q67 hroom67
                      have hr67 := Kd.F_mid (lo := (x10_1 : Int).toNat) (hi := (x14_25 : Int).toNat) (c := c0) hC67 (by omega) (by omega) hroom67
                      obtain ⟨A67, hA67⟩ : ∃ Az_, Az_ = (if c0 = (x10_1 : Int).toNat then A0 else (A0 : Option Addr).map (·.add ((x10_1 : Int).toNat * 1))) := ⟨_, rfl⟩
                      have QA67 := Aside0.mk hA67
                      obtain ⟨c67, hc67⟩ : ∃ cz_, cz_ = c0 - (x10_1 : Int).toNat := ⟨_, rfl⟩
                      have QC67 := Aside0.mk hc67
                      have hy67 : y267.length = (x14_25 : Int).toNat - (x10_1 : Int).toNat := (by rw [Ny267.out, List.length_drop, List.length_take] <;> omega)
                      rw [show ((l0).take (x14_25 : Int).toNat).drop (x10_1 : Int).toNat = y267 from Ny267.out.symm] at hr67
                      replace hr67 : Kd.F Kd.string _ _ A67 y267.length y267 := (by rw [hA67]; exact hr67)
                      rw [← hy67, ← hA67, ← hc67] at hcut67
                      have HO271 := Aside0.mk (show Kd.V Kd.string 9 _ w.heap.size _ (.slice A67 y267.length c67) y267 from Kd.V_mk (by rw [hy67, hc67]; exact Nat.sub_le_sub_right (Nat.le_trans (by omega) hroom67) _) hr67)
                      have HC271 := Aside0.mk (show y267.length ≤ c67 from by rw [hy67, hc67]; exact Nat.sub_le_sub_right (Nat.le_trans (by omega) hroom67) _)
                      clear hr67 hC67 hroom67 hi067 hsz67 hc67
                      have KY67 := Aside0.mk hy67
                      have KA67 := Aside0.mk hA67
                      clear hy67 hA67
                      replace q67 := eq_true q67
                      have q68 : (t249 : Int) ≤ ((l1.length : Int) : Int) := of_decide_eq_true (by first | (with_reducible assumption) | assumption)
                      obtain ⟨i068, hi068, _, hsz68, _⟩ := info_parts info9
                      have hroom68 : l1.length ≤ c1 := (Kd.V_reads' HO_1.out).2.1
                      have hC68 : Kd.F Kd.string _ _ A1 l1.length l1 := (Kd.V_at (base := w.heap.size) HO_1.out).2.2
                      have ql68 : (x11_1 : Int) ≤ (t249 : Int) := of_decide_eq_true (by first | (with_reducible assumption) | assumption)
                      have q068 : (0 : Int) ≤ (x11_1 : Int) := of_decide_eq_true (by first | (with_reducible assumption) | assumption)
                      have hcut68 := cut_mid (P := Tryd.prog) 22 9 .i64 .i64 Tryd.underlying22 hi068 1 hsz68 A1 l1.length c1 x11_1 t249 q068 ql68 q68 hroom68
                      have hr68 := Kd.F_mid (lo := (x11_1 : Int).toNat) (hi := (t249 : Int).toNat) (c := c1) hC68 (by omega) (by omega) hroom68
                      obtain ⟨A68, hA68⟩ : ∃ Az_, Az_ = (if c1 = (x11_1 : Int).toNat then A1 else (A1 : Option Addr).map (·.add ((x11_1 : Int).toNat * 1))) := ⟨_, rfl⟩
                      have QA68 := Aside0.mk hA68
                      obtain ⟨c68, hc68⟩ : ∃ cz_, cz_ = c1 - (x11_1 : Int).toNat := ⟨_, rfl⟩
                      have QC68 := Aside0.mk hc68
                      have hy68 : y272.length = (t249 : Int).toNat - (x11_1 : Int).toNat := (by rw [Ny272.out, List.length_drop, List.length_take] <;> omega)
                      rw [show ((l1).take (t249 : Int).toNat).drop (x11_1 : Int).toNat = y272 from Ny272.out.symm] at hr68
                      replace hr68 : Kd.F Kd.string _ _ A68 y272.length y272 := (by rw [hA68]; exact hr68)
                      rw [← hy68, ← hA68, ← hc68] at hcut68
                      have HO276 := Aside0.mk (show Kd.V Kd.string 9 _ w.heap.size _ (.slice A68 y272.length c68) y272 from Kd.V_mk (by rw [hy68, hc68]; exact Nat.sub_le_sub_right (Nat.le_trans (by omega) hroom68) _) hr68)
                      have HC276 := Aside0.mk (show y272.length ≤ c68 from by rw [hy68, hc68]; exact Nat.sub_le_sub_right (Nat.le_trans (by omega) hroom68) _)
                      clear hr68 hC68 hroom68 hi068 hsz68 hc68
                      have KY68 := Aside0.mk hy68
                      have KA68 := Aside0.mk hA68
                      clear hy68 hA68
                      replace q68 := eq_true q68
                      have q69 : (t250 : Int) ≤ ((l2.length : Int) : Int) := of_decide_eq_true (by first | (with_reducible assumption) | assumption)
                      obtain ⟨i069, hi069, _, hsz69, _⟩ := info_parts info9
                      have hroom69 : l2.length ≤ c2 := (Kd.V_reads' HO_2.out).2.1
                      have hC69 : Kd.F Kd.string _ _ A2 l2.length l2 := (Kd.V_at (base := w.heap.size) HO_2.out).2.2
                      have ql69 : (x12_1 : Int) ≤ (t250 : Int) := of_decide_eq_true (by first | (with_reducible assumption) | assumption)
                      have q069 : (0 : Int) ≤ (x12_1 : Int) := of_decide_eq_true (by first | (with_reducible assumption) | assumption)
                      have hcut69 := cut_mid (P := Tryd.prog) 22 9 .i64 .i64 Tryd.underlying22 hi069 1 hsz69 A2 l2.length c2 x12_1 t250 q069 ql69 q69 hroom69
                      have hr69 := Kd.F_mid (lo := (x12_1 : Int).toNat) (hi := (t250 : Int).toNat) (c := c2) hC69 (by omega) (by omega) hroom69
                      obtain ⟨A69, hA69⟩ : ∃ Az_, Az_ = (if c2 = (x12_1 : Int).toNat then A2 else (A2 : Option Addr).map (·.add ((x12_1 : Int).toNat * 1))) := ⟨_, rfl⟩
                      have QA69 := Aside0.mk hA69
                      obtain ⟨c69, hc69⟩ : ∃ cz_, cz_ = c2 - (x12_1 : Int).toNat := ⟨_, rfl⟩
                      have QC69 := Aside0.mk hc69
                      have hy69 : y277.length = (t250 : Int).toNat - (x12_1 : Int).toNat := (by rw [Ny277.out, List.length_drop, List.length_take] <;> omega)
                      rw [show ((l2).take (t250 : Int).toNat).drop (x12_1 : Int).toNat = y277 from Ny277.out.symm] at hr69
                      replace hr69 : Kd.F Kd.string _ _ A69 y277.length y277 := (by rw [hA69]; exact hr69)
                      rw [← hy69, ← hA69, ← hc69] at hcut69
                      have HO281 := Aside0.mk (show Kd.V Kd.string 9 _ w.heap.size _ (.slice A69 y277.length c69) y277 from Kd.V_mk (by rw [hy69, hc69]; exact Nat.sub_le_sub_right (Nat.le_trans (by omega) hroom69) _) hr69)
                      have HC281 := Aside0.mk (show y277.length ≤ c69 from by rw [hy69, hc69]; exact Nat.sub_le_sub_right (Nat.le_trans (by omega) hroom69) _)
                      clear hr69 hC69 hroom69 hi069 hsz69 hc69
                      have KY69 := Aside0.mk hy69
                      have KA69 := Aside0.mk hA69
                      clear hy69 hA69
                      replace q69 := eq_true q69
                      refine start_ (n := 18) (S := fun w' => True) (ds := []) #[false, false, false, false, false, false, false, false, false, false, false, false, false, false, false, false, false, false] (by kernel_rfl) rfl rfl trivial (fun hHeld => ?_); refine with_tabW pollardref19_Chunks.tab15 pollardref19_Chunks.bits15 (fun HT_ HW_ => ?_)
                      generalize w62.drew = w66 at HO_0 HO_1 HO_2 HO_7 HO_8 HO_9 HO255 HO260 HO265 HB HO271 HO276 HO281 hHeld ⊢
                      refine pure_ (i := 0) (N := some 127) (v := ?_) (a' := ?_) #[true, false, false, false, false, false, false, false, false, false, false, false, false, false, false, false, false, false] rfl rfl (any_of HT_.out (by kernel_rfl)) (fun _ _ _ h => h) (Or.inl ⟨by rfl, ?_⟩) ?_ ?_
                      rotate_left
                      · intro w'
                        go_simp
                        with_reducible rfl
                      rotate_left
                      · simp only [Act.put, List.setIfInBounds_toArray, List.set_cons_zero, List.set_cons_succ, i64_w, i32_w]
                        rfl
                      refine pure_ (i := 1) (N := some 128) (v := ?_) (a' := ?_) #[true, true, false, false, false, false, false, false, false, false, false, false, false, false, false, false, false, false] rfl rfl (any_of HT_.out (by kernel_rfl)) (fun _ _ _ h => h) (Or.inl ⟨by rfl, ?_⟩) ?_ ?_
                      rotate_left
                      · intro w'
                        go_simp
                        with_reducible rfl
                      rotate_left
                      · simp only [Act.put, List.setIfInBounds_toArray, List.set_cons_zero, List.set_cons_succ, i64_w, i32_w]
                        rfl
                      refine pure_ (i := 2) (N := some 129) (v := ?_) (a' := ?_) #[true, true, true, false, false, false, false, false, false, false, false, false, false, false, false, false, false, false] rfl rfl (any_of HT_.out (by kernel_rfl)) (fun _ _ _ h => h) (Or.inl ⟨by rfl, ?_⟩) ?_ ?_
                      rotate_left
                      · intro w'
                        go_simp
                        with_reducible rfl
                      rotate_left
                      · simp only [Act.put, List.setIfInBounds_toArray, List.set_cons_zero, List.set_cons_succ, i64_w, i32_w]
                        rfl
                      refine pure_ (i := 3) (N := some 130) (v := ?_) (a' := ?_) #[true, true, true, true, false, false, false, false, false, false, false, false, false, false, false, false, false, false] rfl rfl (any_of HT_.out (by kernel_rfl)) (fun _ _ _ h => h) (Or.inl ⟨by rfl, ?_⟩) ?_ ?_
                      rotate_left
                      · intro w'
                        go_simp
                        with_reducible rfl
                      rotate_left
                      · simp only [Act.put, List.setIfInBounds_toArray, List.set_cons_zero, List.set_cons_succ, i64_w, i32_w]
                        rfl
                      refine pure_ (i := 4) (N := some 131) (v := ?_) (a' := ?_) #[true, true, true, true, true, false, false, false, false, false, false, false, false, false, false, false, false, false] rfl rfl (any_of HT_.out (by kernel_rfl)) (fun _ _ _ h => h) (Or.inl ⟨by rfl, ?_⟩) ?_ ?_
                      rotate_left
                      · intro w'
                        go_simp
                        with_reducible rfl
                      rotate_left
                      · simp only [Act.put, List.setIfInBounds_toArray, List.set_cons_zero, List.set_cons_succ, i64_w, i32_w]
                        rfl
                      refine pure_ (i := 5) (N := some 132) (v := ?_) (a' := ?_) #[true, true, true, true, true, true, false, false, false, false, false, false, false, false, false, false, false, false] rfl rfl (any_of HT_.out (by kernel_rfl)) (fun _ _ _ h => h) (Or.inl ⟨by rfl, ?_⟩) ?_ ?_
                      rotate_left
                      · intro w'
                        go_simp
                        with_reducible rfl
                      rotate_left
                      · simp only [Act.put, List.setIfInBounds_toArray, List.set_cons_zero, List.set_cons_succ, i64_w, i32_w]
                        rfl
                      refine pure_ (i := 6) (N := some 133) (v := ?_) (a' := ?_) #[true, true, true, true, true, true, true, false, false, false, false, false, false, false, false, false, false, false] rfl rfl (any_of HT_.out (by kernel_rfl)) (fun _ _ _ h => h) (Or.inl ⟨by rfl, ?_⟩) ?_ ?_
                      rotate_left
                      · intro w'
                        go_simp
                        with_reducible rfl
                      rotate_left
                      · simp only [Act.put, List.setIfInBounds_toArray, List.set_cons_zero, List.set_cons_succ, i64_w, i32_w]
                        rfl
                      refine pure_ (i := 7) (N := some 134) (v := ?_) (a' := ?_) #[true, true, true, true, true, true, true, true, false, false, false, false, false, false, false, false, false, false] rfl rfl (any_of HT_.out (by kernel_rfl)) (fun _ _ _ h => h) (Or.inl ⟨by rfl, ?_⟩) ?_ ?_
                      rotate_left
                      · intro w'
                        go_simp
                        with_reducible rfl
                      rotate_left
                      · simp only [Act.put, List.setIfInBounds_toArray, List.set_cons_zero, List.set_cons_succ, i64_w, i32_w]
                        rfl
                      refine pure_ (i := 8) (N := some 135) (v := ?_) (a' := ?_) #[true, true, true, true, true, true, true, true, true, false, false, false, false, false, false, false, false, false] rfl rfl (any_of HT_.out (by kernel_rfl)) (fun _ _ _ h => h) (Or.inl ⟨by rfl, ?_⟩) ?_ ?_
                      rotate_left
                      · intro w'
                        go_simp
                        with_reducible rfl
                      rotate_left
                      · simp only [Act.put, List.setIfInBounds_toArray, List.set_cons_zero, List.set_cons_succ, i64_w, i32_w]
                        rfl
                      refine pure_ (i := 9) (N := some 136) (v := ?_) (a' := ?_) #[true, true, true, true, true, true, true, true, true, true, false, false, false, false, false, false, false, false] rfl rfl (any_of HT_.out (by kernel_rfl)) (fun _ _ _ h => h) (Or.inl ⟨by rfl, ?_⟩) ?_ ?_
                      rotate_left
                      · intro w'
                        go_simp
                        with_reducible rfl
                      rotate_left
                      · simp only [Act.put, List.setIfInBounds_toArray, List.set_cons_zero, List.set_cons_succ, i64_w, i32_w]
                        rfl
                      refine pure_ (i := 10) (N := some 137) (v := ?_) (a' := ?_) #[true, true, true, true, true, true, true, true, true, true, true, false, false, false, false, false, false, false] rfl rfl (any_of HT_.out (by kernel_rfl)) (fun _ _ _ h => h) (Or.inl ⟨by rfl, ?_⟩) ?_ ?_
                      rotate_left
                      · intro w'
                        go_simp
                        with_reducible rfl
                      rotate_left
                      · simp only [Act.put, List.setIfInBounds_toArray, List.set_cons_zero, List.set_cons_succ, i64_w, i32_w]
                        rfl
                      refine pure_ (i := 11) (N := some 138) (v := ?_) (a' := ?_) #[true, true, true, true, true, true, true, true, true, true, true, true, false, false, false, false, false, false] rfl rfl (any_of HT_.out (by kernel_rfl)) (fun _ _ _ h => h) (Or.inl ⟨by rfl, ?_⟩) ?_ ?_
                      rotate_left
                      · intro w'
                        go_simp
                        with_reducible rfl
                      rotate_left
                      · simp only [Act.put, List.setIfInBounds_toArray, List.set_cons_zero, List.set_cons_succ, i64_w, i32_w]
                        rfl
                      refine pure_ (i := 12) (N := some 139) (v := ?_) (a' := ?_) #[true, true, true, true, true, true, true, true, true, true, true, true, true, false, false, false, false, false] rfl rfl (any_of HT_.out (by kernel_rfl)) (fun _ _ _ h => h) (Or.inl ⟨by rfl, ?_⟩) ?_ ?_
                      rotate_left
                      · intro w'
                        go_simp
                        with_reducible rfl
                      rotate_left
                      · simp only [Act.put, List.setIfInBounds_toArray, List.set_cons_zero, List.set_cons_succ, i64_w, i32_w]
                        rfl
                      refine pure_ (i := 13) (N := some 140) (v := ?_) (a' := ?_) #[true, true, true, true, true, true, true, true, true, true, true, true, true, true, false, false, false, false] rfl rfl (any_of HT_.out (by kernel_rfl)) (fun _ _ _ h => h) (Or.inl ⟨by rfl, ?_⟩) ?_ ?_
                      rotate_left
                      · intro w'
                        go_simp
                        with_reducible rfl
                      rotate_left
                      · simp only [Act.put, List.setIfInBounds_toArray, List.set_cons_zero, List.set_cons_succ, i64_w, i32_w]
                        rfl
                      refine pure_ (i := 14) (N := some 141) (v := ?_) (a' := ?_) #[true, true, true, true, true, true, true, true, true, true, true, true, true, true, true, false, false, false] rfl rfl (any_of HT_.out (by kernel_rfl)) (fun _ _ _ h => h) (Or.inl ⟨by rfl, ?_⟩) ?_ ?_
                      rotate_left
                      · intro w'
                        go_simp
                        with_reducible rfl
                      rotate_left
                      · simp only [Act.put, List.setIfInBounds_toArray, List.set_cons_zero, List.set_cons_succ, i64_w, i32_w]
                        rfl
                      refine one_ (i := 15) (N := some 142) #[true, true, true, true, true, true, true, true, true, true, true, true, true, true, true, true, false, false] rfl rfl (one_of HT_.out (by kernel_rfl)) (by decide) (fun K hK => ?_)
                      refine value_ (w1 := ?_) (v := ?_) (by rfl) rfl ?_ ?_
                      rotate_left 2
                      · go_simp
                        constructor
                        · rfl
                        · rfl
                      refine hK.out _ _ trivial (fun hHeld => ?_)
                      clear hK K
                      refine norm_ (a' := ?_) ?_ ?_
                      rotate_left
                      · show Act.put _ (some 142) _ = _
                        simp only [Act.put, List.setIfInBounds_toArray, List.set_cons_zero, List.set_cons_succ, i64_w, i32_w]
                        rfl
                      refine one_ (i := 16) (N := some 143) #[true, true, true, true, true, true, true, true, true, true, true, true, true, true, true, true, true, false] rfl rfl (one_of HT_.out (by kernel_rfl)) (by decide) (fun K hK => ?_)
                      (try rw [show A63 = A67 from QA63.out.trans QA67.out.symm]); (try rw [show c63 = c67 from QC63.out.trans QC67.out.symm]); (try rw [show y251 = y267 from Qy251.out.trans Qy267.out.symm])
                      (try rw [show A64 = A68 from QA64.out.trans QA68.out.symm]); (try rw [show c64 = c68 from QC64.out.trans QC68.out.symm]); (try rw [show y256 = y272 from Qy256.out.trans Qy272.out.symm])
                      (try rw [show A65 = A69 from QA65.out.trans QA69.out.symm]); (try rw [show c65 = c69 from QC65.out.trans QC69.out.symm]); (try rw [show y261 = y277 from Qy261.out.trans Qy277.out.symm])
                      refine Kd.N_append_step k33 (w0 := w) w.heap.size (by rfl) (.tmp 127) (.tmp 142) 28 33 (.agg #[(.int .i64 0), (.slice none 0 0), (.slice none 0 0), (.slice none 0 0)]) 80 rfl Tryd.underlying28 info33 rfl (by decide) (by omega) u9 x9_1 (⟨t266, y267, y272, y277⟩ : S33) [.int .i64 t266, .slice A67 y267.length c67, .slice A68 y272.length c68, .slice A69 y277.length c69] (fun k_ => ((P0_ k_ ∨ P1_ k_ ∨ P2_ k_) ∨ w.heap.size ≤ k_) ∧ some k_ ≠ (.slice Ao60 t236.length co60 : Value).ownBlock ∧ some k_ ≠ (.slice Ao61 t239.length co61 : Value).ownBlock) (fun k_ => ((fun k_ => ((P0_ k_ ∨ P1_ k_ ∨ P2_ k_) ∨ w.heap.size ≤ k_) ∧ some k_ ≠ (.slice Ao60 t236.length co60 : Value).ownBlock ∧ some k_ ≠ (.slice Ao61 t239.length co61 : Value).ownBlock)) k_ ∧ some k_ ≠ (u9 : Value).ownBlock) rfl rfl ?aP (fun _ hk => hk) ?aF ?aO ?aB ?aS ?aL ?_
                      (case aP => exact (k33_mkF _ _ (⟨t266, y267, y272, y277⟩ : S33) (Kd.V_reads' (Kd.V_mono (ok' := (fun k_ => ((fun k_ => ((P0_ k_ ∨ P1_ k_ ∨ P2_ k_) ∨ w.heap.size ≤ k_) ∧ some k_ ≠ (.slice Ao60 t236.length co60 : Value).ownBlock ∧ some k_ ≠ (.slice Ao61 t239.length co61 : Value).ownBlock)) k_ ∧ some k_ ≠ (u9 : Value).ownBlock)) (HO271.out) (fun k_ hk => ⟨⟨hk.1, ⟨hk.2.1, hk.2.2.1⟩⟩, hk.2.2.2⟩))).2.1 (Kd.V_F (Kd.V_mono (ok' := (fun k_ => ((fun k_ => ((P0_ k_ ∨ P1_ k_ ∨ P2_ k_) ∨ w.heap.size ≤ k_) ∧ some k_ ≠ (.slice Ao60 t236.length co60 : Value).ownBlock ∧ some k_ ≠ (.slice Ao61 t239.length co61 : Value).ownBlock)) k_ ∧ some k_ ≠ (u9 : Value).ownBlock)) (HO271.out) (fun k_ hk => ⟨⟨hk.1, ⟨hk.2.1, hk.2.2.1⟩⟩, hk.2.2.2⟩))) (Kd.V_reads' (Kd.V_mono (ok' := (fun k_ => ((fun k_ => ((P0_ k_ ∨ P1_ k_ ∨ P2_ k_) ∨ w.heap.size ≤ k_) ∧ some k_ ≠ (.slice Ao60 t236.length co60 : Value).ownBlock ∧ some k_ ≠ (.slice Ao61 t239.length co61 : Value).ownBlock)) k_ ∧ some k_ ≠ (u9 : Value).ownBlock)) (HO276.out) (fun k_ hk => ⟨⟨hk.1, ⟨hk.2.1, hk.2.2.1⟩⟩, hk.2.2.2⟩))).2.1 (Kd.V_F (Kd.V_mono (ok' := (fun k_ => ((fun k_ => ((P0_ k_ ∨ P1_ k_ ∨ P2_ k_) ∨ w.heap.size ≤ k_) ∧ some k_ ≠ (.slice Ao60 t236.length co60 : Value).ownBlock ∧ some k_ ≠ (.slice Ao61 t239.length co61 : Value).ownBlock)) k_ ∧ some k_ ≠ (u9 : Value).ownBlock)) (HO276.out) (fun k_ hk => ⟨⟨hk.1, ⟨hk.2.1, hk.2.2.1⟩⟩, hk.2.2.2⟩))) (Kd.V_reads' (Kd.V_mono (ok' := (fun k_ => ((fun k_ => ((P0_ k_ ∨ P1_ k_ ∨ P2_ k_) ∨ w.heap.size ≤ k_) ∧ some k_ ≠ (.slice Ao60 t236.length co60 : Value).ownBlock ∧ some k_ ≠ (.slice Ao61 t239.length co61 : Value).ownBlock)) k_ ∧ some k_ ≠ (u9 : Value).ownBlock)) (HO281.out) (fun k_ hk => ⟨⟨hk.1, ⟨hk.2.1, hk.2.2.1⟩⟩, hk.2.2.2⟩))).2.1 (Kd.V_F (Kd.V_mono (ok' := (fun k_ => ((fun k_ => ((P0_ k_ ∨ P1_ k_ ∨ P2_ k_) ∨ w.heap.size ≤ k_) ∧ some k_ ≠ (.slice Ao60 t236.length co60 : Value).ownBlock ∧ some k_ ≠ (.slice Ao61 t239.length co61 : Value).ownBlock)) k_ ∧ some k_ ≠ (u9 : Value).ownBlock)) (HO281.out) (fun k_ hk => ⟨⟨hk.1, ⟨hk.2.1, hk.2.2.1⟩⟩, hk.2.2.2⟩)))))
                      (case aB => exact (by repeat (first | (with_reducible first | exact HB.out | apply below_alloc | apply pw_below_drewN | apply below_drew1) | exact HB.out)))
                      (case aF => exact (fun k_ hk => ⟨(.inr (Nat.le_trans (below_size (by repeat (first | (with_reducible first | exact HB.out | apply below_alloc | apply pw_below_drewN | apply below_drew1) | exact HB.out))) hk)), Kd.fresh' (Kd.R_lt (by (with_reducible repeat (first | apply Kd.R_alloc | apply Kd.R_drewN | apply Kd.R_drew)); exact HO_7.out)) k_ hk, Kd.fresh' (Kd.R_lt (by (with_reducible repeat (first | apply Kd.R_alloc | apply Kd.R_drewN | apply Kd.R_drew)); exact HO_8.out)) k_ hk⟩))
                      (case aO => exact (by (with_reducible repeat (first | apply Kd.N_alloc | apply Kd.N_drewN | apply Kd.N_drew)); exact HO_9.out))
                      (case aS => exact (below_size (by repeat (first | (with_reducible first | exact HB.out | apply below_alloc | apply pw_below_drewN | apply below_drew1) | exact HB.out))))
                      (case aL => have := LMc59.out; omega)
                      intro v283 w70 ho hb hg hat
                      rw [← Ny282.out] at ho
                      have n0_ := Aside0.mk (Kd.V_afterv (ok := (fun k_ => ((P0_ k_ ∨ P1_ k_ ∨ P2_ k_) ∨ w.heap.size ≤ k_) ∧ some k_ ≠ (.slice Ao60 t236.length co60 : Value).ownBlock ∧ some k_ ≠ (.slice Ao61 t239.length co61 : Value).ownBlock)) (by (with_reducible repeat (first | apply Kd.V_alloc | apply Kd.V_drewN | apply Kd.V_drew)); exact Kd.V_mono HO_0.out (fun _ hk => ⟨⟨hk.1, ⟨hk.2.1, hk.2.2.1⟩⟩, hk.2.2.2⟩)) hg hat)
                      have n1_ := Aside0.mk (Kd.V_afterv (ok := (fun k_ => ((P0_ k_ ∨ P1_ k_ ∨ P2_ k_) ∨ w.heap.size ≤ k_) ∧ some k_ ≠ (.slice Ao60 t236.length co60 : Value).ownBlock ∧ some k_ ≠ (.slice Ao61 t239.length co61 : Value).ownBlock)) (by (with_reducible repeat (first | apply Kd.V_alloc | apply Kd.V_drewN | apply Kd.V_drew)); exact Kd.V_mono HO_1.out (fun _ hk => ⟨⟨hk.1, ⟨hk.2.1, hk.2.2.1⟩⟩, hk.2.2.2⟩)) hg hat)
                      have n2_ := Aside0.mk (Kd.V_afterv (ok := (fun k_ => ((P0_ k_ ∨ P1_ k_ ∨ P2_ k_) ∨ w.heap.size ≤ k_) ∧ some k_ ≠ (.slice Ao60 t236.length co60 : Value).ownBlock ∧ some k_ ≠ (.slice Ao61 t239.length co61 : Value).ownBlock)) (by (with_reducible repeat (first | apply Kd.V_alloc | apply Kd.V_drewN | apply Kd.V_drew)); exact Kd.V_mono HO_2.out (fun _ hk => ⟨⟨hk.1, ⟨hk.2.1, hk.2.2.1⟩⟩, hk.2.2.2⟩)) hg hat)
                      have n3_ := Aside0.mk (Kd.R_over' (by (with_reducible repeat (first | apply Kd.R_alloc | apply Kd.R_drewN | apply Kd.R_drew)); exact HO_7.out) (Kd.N_typed (by (with_reducible repeat (first | apply Kd.N_alloc | apply Kd.N_drewN | apply Kd.N_drew)); exact HO_9.out)) (by decide) hg)
                      have n4_ := Aside0.mk (Kd.R_over' (by (with_reducible repeat (first | apply Kd.R_alloc | apply Kd.R_drewN | apply Kd.R_drew)); exact HO_8.out) (Kd.N_typed (by (with_reducible repeat (first | apply Kd.N_alloc | apply Kd.N_drewN | apply Kd.N_drew)); exact HO_9.out)) (by decide) hg)
                      have n5_ := Aside0.mk (Kd.V_afterv (ok := (fun k_ => ((P0_ k_ ∨ P1_ k_ ∨ P2_ k_) ∨ w.heap.size ≤ k_) ∧ some k_ ≠ (.slice Ao60 t236.length co60 : Value).ownBlock ∧ some k_ ≠ (.slice Ao61 t239.length co61 : Value).ownBlock)) (by (with_reducible repeat (first | apply Kd.V_alloc | apply Kd.V_drewN | apply Kd.V_drew)); exact Kd.V_mono HO255.out (fun _ hk => ⟨⟨hk.1, ⟨hk.2.1, hk.2.2.1⟩⟩, hk.2.2.2⟩)) hg hat)
                      have n6_ := Aside0.mk (Kd.V_afterv (ok := (fun k_ => ((P0_ k_ ∨ P1_ k_ ∨ P2_ k_) ∨ w.heap.size ≤ k_) ∧ some k_ ≠ (.slice Ao60 t236.length co60 : Value).ownBlock ∧ some k_ ≠ (.slice Ao61 t239.length co61 : Value).ownBlock)) (by (with_reducible repeat (first | apply Kd.V_alloc | apply Kd.V_drewN | apply Kd.V_drew)); exact Kd.V_mono HO260.out (fun _ hk => ⟨⟨hk.1, ⟨hk.2.1, hk.2.2.1⟩⟩, hk.2.2.2⟩)) hg hat)
                      have n7_ := Aside0.mk (Kd.V_afterv (ok := (fun k_ => ((P0_ k_ ∨ P1_ k_ ∨ P2_ k_) ∨ w.heap.size ≤ k_) ∧ some k_ ≠ (.slice Ao60 t236.length co60 : Value).ownBlock ∧ some k_ ≠ (.slice Ao61 t239.length co61 : Value).ownBlock)) (by (with_reducible repeat (first | apply Kd.V_alloc | apply Kd.V_drewN | apply Kd.V_drew)); exact Kd.V_mono HO265.out (fun _ hk => ⟨⟨hk.1, ⟨hk.2.1, hk.2.2.1⟩⟩, hk.2.2.2⟩)) hg hat)
                      have n8_ := Aside0.mk (Kd.V_afterv (ok := (fun k_ => ((P0_ k_ ∨ P1_ k_ ∨ P2_ k_) ∨ w.heap.size ≤ k_) ∧ some k_ ≠ (.slice Ao60 t236.length co60 : Value).ownBlock ∧ some k_ ≠ (.slice Ao61 t239.length co61 : Value).ownBlock)) (by (with_reducible repeat (first | apply Kd.V_alloc | apply Kd.V_drewN | apply Kd.V_drew)); exact Kd.V_mono HO271.out (fun _ hk => ⟨⟨hk.1, ⟨hk.2.1, hk.2.2.1⟩⟩, hk.2.2.2⟩)) hg hat)
                      have n9_ := Aside0.mk (Kd.V_afterv (ok := (fun k_ => ((P0_ k_ ∨ P1_ k_ ∨ P2_ k_) ∨ w.heap.size ≤ k_) ∧ some k_ ≠ (.slice Ao60 t236.length co60 : Value).ownBlock ∧ some k_ ≠ (.slice Ao61 t239.length co61 : Value).ownBlock)) (by (with_reducible repeat (first | apply Kd.V_alloc | apply Kd.V_drewN | apply Kd.V_drew)); exact Kd.V_mono HO276.out (fun _ hk => ⟨⟨hk.1, ⟨hk.2.1, hk.2.2.1⟩⟩, hk.2.2.2⟩)) hg hat)
                      have n10_ := Aside0.mk (Kd.V_afterv (ok := (fun k_ => ((P0_ k_ ∨ P1_ k_ ∨ P2_ k_) ∨ w.heap.size ≤ k_) ∧ some k_ ≠ (.slice Ao60 t236.length co60 : Value).ownBlock ∧ some k_ ≠ (.slice Ao61 t239.length co61 : Value).ownBlock)) (by (with_reducible repeat (first | apply Kd.V_alloc | apply Kd.V_drewN | apply Kd.V_drew)); exact Kd.V_mono HO281.out (fun _ hk => ⟨⟨hk.1, ⟨hk.2.1, hk.2.2.1⟩⟩, hk.2.2.2⟩)) hg hat)
                      have n11_ := Aside0.mk (hb)
                      have n12_ := Aside0.mk (ho)
                      clear HO_0
                      clear HO_1
                      clear HO_2
                      clear HO_7
                      clear HO_8
                      clear HO255
                      clear HO260
                      clear HO265
                      clear HO271
                      clear HO276
                      clear HO281
                      clear HB
                      clear HO_9
                      have HO_0 := n0_
                      have HO_1 := n1_
                      have HO_2 := n2_
                      have HO_7 := n3_
                      have HO_8 := n4_
                      have HO255 := n5_
                      have HO260 := n6_
                      have HO265 := n7_
                      have HO271 := n8_
                      have HO276 := n9_
                      have HO281 := n10_
                      have HB := n11_
                      have HO284 := n12_
                      clear n0_ n1_ n2_ n3_ n4_ n5_ n6_ n7_ n8_ n9_ n10_ n11_ n12_
                      clear ho hb hg hat
                      refine hK.out _ _ trivial (fun hHeld => ?_)
                      clear hK K
                      refine norm_ (a' := ?_) ?_ ?_
                      rotate_left
                      · show Act.put _ (some 143) _ = _
                        simp only [Act.put, List.setIfInBounds_toArray, List.set_cons_zero, List.set_cons_succ, i64_w, i32_w]
                        rfl
                      refine pure_ (i := 17) (N := some 9) (v := ?_) (a' := ?_) #[true, true, true, true, true, true, true, true, true, true, true, true, true, true, true, true, true, true] rfl rfl (any_of HT_.out (by kernel_rfl)) (fun _ _ _ h => h) (Or.inl ⟨by rfl, ?_⟩) ?_ ?_
                      rotate_left
                      · intro w'
                        go_simp
                        with_reducible rfl
                      rotate_left
                      · simp only [Act.put, List.setIfInBounds_toArray, List.set_cons_zero, List.set_cons_succ, i64_w, i32_w]
                        rfl
                      refine done_ (done_of HT_.out (by kernel_rfl)) ?_
                      try go_wp2
                      go_roundg kj25
                      case measure => have := HK1.out; have := HJ9.out; have := HJ13.out; have := HJ25.out; omega
                      case rel => exact ⟨(y282), (x14_25), (t249), (t250), (by first | rfl | (simp; done) | (simp [*]; done)), (by first | rfl | (simp; done) | (simp [*]; done)), (by first | rfl | (simp; done) | (simp [*]; done)), H', ⟨by have := HK1.out; have := HJ9.out; have := HJ13.out; have := HJ25.out; omega⟩, ⟨by (with_reducible repeat (first | apply Kd.V_alloc | apply Kd.V_drewN | apply Kd.V_drew)); exact Kd.V_mono HO_0.out (fun _ hk => ⟨hk.1.1, ⟨hk.1.2.1, ⟨hk.1.2.2, hk.2⟩⟩⟩)⟩, ⟨by (with_reducible repeat (first | apply Kd.V_alloc | apply Kd.V_drewN | apply Kd.V_drew)); exact Kd.V_mono HO_1.out (fun _ hk => ⟨hk.1.1, ⟨hk.1.2.1, ⟨hk.1.2.2, hk.2⟩⟩⟩)⟩, ⟨by (with_reducible repeat (first | apply Kd.V_alloc | apply Kd.V_drewN | apply Kd.V_drew)); exact Kd.V_mono HO_2.out (fun _ hk => ⟨hk.1.1, ⟨hk.1.2.1, ⟨hk.1.2.2, hk.2⟩⟩⟩)⟩, ⟨by (with_reducible repeat (first | apply Kd.R_alloc | apply Kd.R_drewN | apply Kd.R_drew)); exact HO_7.out⟩, ⟨by (with_reducible repeat (first | apply Kd.R_alloc | apply Kd.R_drewN | apply Kd.R_drew)); exact HO_8.out⟩, ⟨by (with_reducible repeat (first | apply Kd.N_alloc | apply Kd.N_drewN | apply Kd.N_drew)); exact HO284.out⟩, ⟨by repeat (first | (with_reducible first | exact HB.out | apply below_alloc | apply pw_below_drewN | apply below_drew1) | exact HB.out)⟩⟩
                     · rw [if_neg c59] at H
                       exact absurd H (by simp)
                    · rw [if_neg c48] at H
                      exact absurd H (by simp)
                   · rw [if_neg c47] at H
                     exact absurd H (by simp)
                  · rw [if_neg c46] at H
                    exact absurd H (by simp)
                 · rw [if_neg c45] at H
                   exact absurd H (by simp)
                · rw [if_neg c44] at H
                  exact absurd H (by simp)
               · rw [if_neg c43] at H
                 exact absurd H (by simp)
              · rw [if_neg c42] at H
                exact absurd H (by simp)
             · rw [if_neg c41] at H
               exact absurd H (by simp)
            · rw [if_neg c40] at H
              exact absurd H (by simp)
           ·
            rw [if_neg c37] at H
            have c37b0 : decide (x14_25 < (l0.length : Int)) = false := decide_eq_false c37
            clear c37
            by_cases c71 : 0 ≤ x10_1
            ·
             rw [if_pos c71] at H
             have c71b0 := eq_true c71
             have c71b1 : decide (0 ≤ x10_1) = true := decide_eq_true c71
             clear c71
             by_cases c72 : x10_1 ≤ x14_25
             ·
              rw [if_pos c72] at H
              have c72b0 := eq_true c72
              have c72b1 : decide (x10_1 ≤ x14_25) = true := decide_eq_true c72
              clear c72
              by_cases c73 : x14_25 ≤ (l0.length : Int)
              ·
               rw [if_pos c73] at H
               have c73b0 := eq_true c73
               have c73b1 : decide (x14_25 ≤ (l0.length : Int)) = true := decide_eq_true c73
               clear c73
               obtain ⟨y285, hy285⟩ : ∃ y_ : List ByteArray, y_ = ((l0.take (x14_25 : Int).toNat).drop (x10_1 : Int).toNat) := ⟨_, rfl⟩
               have Qy285 := Aside0.mk hy285
               replace H : (if 0 ≤ x11_1 then (if x11_1 ≤ (l1.length : Int) then (if (l1.length : Int) ≤ (l1.length : Int) then (if 0 ≤ x12_1 then (if x12_1 ≤ (l2.length : Int) then (if (l2.length : Int) ≤ (l2.length : Int) then ((pollardref19_kind.f kj25 y285 ((l1.take ((l1.length : Int) : Int).toNat).drop (x11_1 : Int).toNat) ((l2.take ((l2.length : Int) : Int).toNat).drop (x12_1 : Int).toNat)).bind fun t300 => (if x9_1.length < 1759218604441 then (pollardref19_Chunks.l0 kj25 l0 l1 l2 t236 t239 (x9_1 ++ [(⟨t300, ((l0.take (x14_25 : Int).toNat).drop (x10_1 : Int).toNat), ((l1.take ((l1.length : Int) : Int).toNat).drop (x11_1 : Int).toNat), ((l2.take ((l2.length : Int) : Int).toNat).drop (x12_1 : Int).toNat)⟩ : S33)]) x14_25 (l1.length : Int) (l2.length : Int)) else (none))) else (none)) else (none)) else (none)) else (none)) else (none)) else (none)) = some r := by first | (rw [hy285]; with_reducible exact H) | (have H2_ := (Option.bind_some _ _).symm.trans H; rw [hy285]; with_reducible exact H2_) | (have H2_ := (Option.bind_some _ _).symm.trans H; with_reducible exact H2_) | with_reducible exact H | (rw [hy285]; exact H) | exact H
               have Ny285 := Aside0.mk hy285
               clear hy285
               by_cases c74 : 0 ≤ x11_1
               ·
                rw [if_pos c74] at H
                have c74b0 := eq_true c74
                have c74b1 : decide (0 ≤ x11_1) = true := decide_eq_true c74
                clear c74
                by_cases c75 : x11_1 ≤ (l1.length : Int)
                ·
                 rw [if_pos c75] at H
                 have c75b0 := eq_true c75
                 have c75b1 : decide (x11_1 ≤ (l1.length : Int)) = true := decide_eq_true c75
                 clear c75
                 by_cases c76 : (l1.length : Int) ≤ (l1.length : Int)
                 ·
                  rw [if_pos c76] at H
                  have c76b0 := eq_true c76
                  have c76b1 : decide ((l1.length : Int) ≤ (l1.length : Int)) = true := decide_eq_true c76
                  clear c76
                  obtain ⟨y290, hy290⟩ : ∃ y_ : List ByteArray, y_ = ((l1.take ((l1.length : Int) : Int).toNat).drop (x11_1 : Int).toNat) := ⟨_, rfl⟩
                  have Qy290 := Aside0.mk hy290
                  replace H : (if 0 ≤ x12_1 then (if x12_1 ≤ (l2.length : Int) then (if (l2.length : Int) ≤ (l2.length : Int) then ((pollardref19_kind.f kj25 y285 y290 ((l2.take ((l2.length : Int) : Int).toNat).drop (x12_1 : Int).toNat)).bind fun t300 => (if x9_1.length < 1759218604441 then (pollardref19_Chunks.l0 kj25 l0 l1 l2 t236 t239 (x9_1 ++ [(⟨t300, ((l0.take (x14_25 : Int).toNat).drop (x10_1 : Int).toNat), ((l1.take ((l1.length : Int) : Int).toNat).drop (x11_1 : Int).toNat), ((l2.take ((l2.length : Int) : Int).toNat).drop (x12_1 : Int).toNat)⟩ : S33)]) x14_25 (l1.length : Int) (l2.length : Int)) else (none))) else (none)) else (none)) else (none)) = some r := by first | (rw [hy290]; with_reducible exact H) | (have H2_ := (Option.bind_some _ _).symm.trans H; rw [hy290]; with_reducible exact H2_) | (have H2_ := (Option.bind_some _ _).symm.trans H; with_reducible exact H2_) | with_reducible exact H | (rw [hy290]; exact H) | exact H
                  have Ny290 := Aside0.mk hy290
                  clear hy290
                  by_cases c77 : 0 ≤ x12_1
                  ·
                   rw [if_pos c77] at H
                   have c77b0 := eq_true c77
                   have c77b1 : decide (0 ≤ x12_1) = true := decide_eq_true c77
                   clear c77
                   by_cases c78 : x12_1 ≤ (l2.length : Int)
                   ·
                    rw [if_pos c78] at H
                    have c78b0 := eq_true c78
                    have c78b1 : decide (x12_1 ≤ (l2.length : Int)) = true := decide_eq_true c78
                    clear c78
                    by_cases c79 : (l2.length : Int) ≤ (l2.length : Int)
                    ·
                     rw [if_pos c79] at H
                     have c79b0 := eq_true c79
                     have c79b1 : decide ((l2.length : Int) ≤ (l2.length : Int)) = true := decide_eq_true c79
                     clear c79
                     obtain ⟨y295, hy295⟩ : ∃ y_ : List ByteArray, y_ = ((l2.take ((l2.length : Int) : Int).toNat).drop (x12_1 : Int).toNat) := ⟨_, rfl⟩
                     have Qy295 := Aside0.mk hy295
                     replace H : ((pollardref19_kind.f kj25 y285 y290 y295).bind fun t300 => (if x9_1.length < 1759218604441 then (pollardref19_Chunks.l0 kj25 l0 l1 l2 t236 t239 (x9_1 ++ [(⟨t300, ((l0.take (x14_25 : Int).toNat).drop (x10_1 : Int).toNat), ((l1.take ((l1.length : Int) : Int).toNat).drop (x11_1 : Int).toNat), ((l2.take ((l2.length : Int) : Int).toNat).drop (x12_1 : Int).toNat)⟩ : S33)]) x14_25 (l1.length : Int) (l2.length : Int)) else (none))) = some r := by first | (rw [hy295]; with_reducible exact H) | (have H2_ := (Option.bind_some _ _).symm.trans H; rw [hy295]; with_reducible exact H2_) | (have H2_ := (Option.bind_some _ _).symm.trans H; with_reducible exact H2_) | with_reducible exact H | (rw [hy295]; exact H) | exact H
                     have Ny295 := Aside0.mk hy295
                     clear hy295
                     replace H := Option.bind_eq_some_iff.mp H
                     obtain ⟨t300, A800, H⟩ := H
                     replace H : (if x9_1.length < 1759218604441 then (pollardref19_Chunks.l0 kj25 l0 l1 l2 t236 t239 (x9_1 ++ [(⟨t300, ((l0.take (x14_25 : Int).toNat).drop (x10_1 : Int).toNat), ((l1.take ((l1.length : Int) : Int).toNat).drop (x11_1 : Int).toNat), ((l2.take ((l2.length : Int) : Int).toNat).drop (x12_1 : Int).toNat)⟩ : S33)]) x14_25 (l1.length : Int) (l2.length : Int)) else (none)) = some r := H
                     have A80 := Aside0.mk A800
                     clear A800
                     have c81b0 := eq_true (of_decide_eq_true (by first | (with_reducible assumption) | assumption) : 0 ≤ x10_1)
                     have c82b0 := eq_true (of_decide_eq_true (by first | (with_reducible assumption) | assumption) : x10_1 ≤ x14_25)
                     have c83b0 := eq_true (of_decide_eq_true (by first | (with_reducible assumption) | assumption) : x14_25 ≤ (l0.length : Int))
                     obtain ⟨y301, hy301⟩ : ∃ y_ : List ByteArray, y_ = ((l0.take (x14_25 : Int).toNat).drop (x10_1 : Int).toNat) := ⟨_, rfl⟩
                     have Qy301 := Aside0.mk hy301
                     replace H : (if x9_1.length < 1759218604441 then (pollardref19_Chunks.l0 kj25 l0 l1 l2 t236 t239 (x9_1 ++ [(⟨t300, y301, ((l1.take ((l1.length : Int) : Int).toNat).drop (x11_1 : Int).toNat), ((l2.take ((l2.length : Int) : Int).toNat).drop (x12_1 : Int).toNat)⟩ : S33)]) x14_25 (l1.length : Int) (l2.length : Int)) else (none)) = some r := by first | (rw [hy301]; with_reducible exact H) | (have H2_ := (Option.bind_some _ _).symm.trans H; rw [hy301]; with_reducible exact H2_) | (have H2_ := (Option.bind_some _ _).symm.trans H; with_reducible exact H2_) | with_reducible exact H | (rw [hy301]; exact H) | exact H
                     have Ny301 := Aside0.mk hy301
                     clear hy301
                     have c84b0 := eq_true (of_decide_eq_true (by first | (with_reducible assumption) | assumption) : 0 ≤ x11_1)
                     have c85b0 := eq_true (of_decide_eq_true (by first | (with_reducible assumption) | assumption) : x11_1 ≤ (l1.length : Int))
                     have c86b0 := eq_true (of_decide_eq_true (by first | (with_reducible assumption) | assumption) : (l1.length : Int) ≤ (l1.length : Int))
                     obtain ⟨y306, hy306⟩ : ∃ y_ : List ByteArray, y_ = ((l1.take ((l1.length : Int) : Int).toNat).drop (x11_1 : Int).toNat) := ⟨_, rfl⟩
                     have Qy306 := Aside0.mk hy306
                     replace H : (if x9_1.length < 1759218604441 then (pollardref19_Chunks.l0 kj25 l0 l1 l2 t236 t239 (x9_1 ++ [(⟨t300, y301, y306, ((l2.take ((l2.length : Int) : Int).toNat).drop (x12_1 : Int).toNat)⟩ : S33)]) x14_25 (l1.length : Int) (l2.length : Int)) else (none)) = some r := by first | (rw [hy306]; with_reducible exact H) | (have H2_ := (Option.bind_some _ _).symm.trans H; rw [hy306]; with_reducible exact H2_) | (have H2_ := (Option.bind_some _ _).symm.trans H; with_reducible exact H2_) | with_reducible exact H | (rw [hy306]; exact H) | exact H
                     have Ny306 := Aside0.mk hy306
                     clear hy306
                     have c87b0 := eq_true (of_decide_eq_true (by first | (with_reducible assumption) | assumption) : 0 ≤ x12_1)
                     have c88b0 := eq_true (of_decide_eq_true (by first | (with_reducible assumption) | assumption) : x12_1 ≤ (l2.length : Int))
                     have c89b0 := eq_true (of_decide_eq_true (by first | (with_reducible assumption) | assumption) : (l2.length : Int) ≤ (l2.length : Int))
                     obtain ⟨y311, hy311⟩ : ∃ y_ : List ByteArray, y_ = ((l2.take ((l2.length : Int) : Int).toNat).drop (x12_1 : Int).toNat) := ⟨_, rfl⟩
                     have Qy311 := Aside0.mk hy311
                     replace H : (if x9_1.length < 1759218604441 then (pollardref19_Chunks.l0 kj25 l0 l1 l2 t236 t239 (x9_1 ++ [(⟨t300, y301, y306, y311⟩ : S33)]) x14_25 (l1.length : Int) (l2.length : Int)) else (none)) = some r := by first | (rw [hy311]; with_reducible exact H) | (have H2_ := (Option.bind_some _ _).symm.trans H; rw [hy311]; with_reducible exact H2_) | (have H2_ := (Option.bind_some _ _).symm.trans H; with_reducible exact H2_) | with_reducible exact H | (rw [hy311]; exact H) | exact H
                     have Ny311 := Aside0.mk hy311
                     clear hy311
                     by_cases c90 : x9_1.length < 1759218604441
                     ·
                      rw [if_pos c90] at H
                      have LMc90 := Aside0.mk c90
                      clear c90
                      obtain ⟨y316, hy316⟩ : ∃ y_ : List (S33), y_ = (x9_1 ++ [(⟨t300, y301, y306, y311⟩ : S33)]) := ⟨_, rfl⟩
                      replace H : (pollardref19_Chunks.l0 kj25 l0 l1 l2 t236 t239 y316 x14_25 (l1.length : Int) (l2.length : Int)) = some r := by first | (rw [hy316]; with_reducible exact H) | (have H2_ := (Option.bind_some _ _).symm.trans H; rw [hy316]; with_reducible exact H2_) | (have H2_ := (Option.bind_some _ _).symm.trans H; with_reducible exact H2_) | with_reducible exact H | (rw [hy316]; exact H) | exact H
                      have Ny316 := Aside0.mk hy316
                      clear hy316
                      have H' := Aside0.mk H
                      clear H
                      try go_wp2
                      have n0_ := Aside0.mk (Kd.V_drew HO_0.out)
                      have n1_ := Aside0.mk (Kd.V_drew HO_1.out)
                      have n2_ := Aside0.mk (Kd.V_drew HO_2.out)
                      have n3_ := Aside0.mk (Kd.R_drew HO_7.out)
                      have n4_ := Aside0.mk (Kd.R_drew HO_8.out)
                      have n5_ := Aside0.mk (Kd.N_drew HO_9.out)
                      have n6_ := Aside0.mk (below_drew1 HB.out)
                      clear HO_0
                      clear HO_1
                      clear HO_2
                      clear HO_7
                      clear HO_8
                      clear HO_9
                      clear HB
                      have HO_0 := n0_
                      have HO_1 := n1_
                      have HO_2 := n2_
                      have HO_7 := n3_
                      have HO_8 := n4_
                      have HO_9 := n5_
                      have HB := n6_
                      clear n0_ n1_ n2_ n3_ n4_ n5_ n6_
                      have q92 : (x14_25 : Int) ≤ ((l0.length : Int) : Int) := of_decide_eq_true (by first | (with_reducible assumption) | assumption)
                      obtain ⟨i092, hi092, _, hsz92, _⟩ := info_parts info9
                      have hroom92 : l0.length ≤ c0 := (Kd.V_reads' HO_0.out).2.1
                      have hC92 : Kd.F Kd.string _ _ A0 l0.length l0 := (Kd.V_at (base := w.heap.size) HO_0.out).2.2
                      have ql92 : (x10_1 : Int) ≤ (x14_25 : Int) := of_decide_eq_true (by first | (with_reducible assumption) | assumption)
                      have q092 : (0 : Int) ≤ (x10_1 : Int) := of_decide_eq_true (by first | (with_reducible assumption) | assumption)
                      have hcut92 := cut_mid (P := Tryd.prog) 22 9 .i64 .i64 Tryd.underlying22 hi092 1 hsz92 A0 l0.length c0 x10_1 x14_25 q092 ql92 q92 hroom92
                      have hr92 := Kd.F_mid (lo := (x10_1 : Int).toNat) (hi := (x14_25 : Int).toNat) (c := c0) hC92 (by omega) (by omega) hroom92
                      obtain ⟨A92, hA92⟩ : ∃ Az_, Az_ = (if c0 = (x10_1 : Int).toNat then A0 else (A0 : Option Addr).map (·.add ((x10_1 : Int).toNat * 1))) := ⟨_, rfl⟩
                      have QA92 := Aside0.mk hA92
                      obtain ⟨c92, hc92⟩ : ∃ cz_, cz_ = c0 - (x10_1 : Int).toNat := ⟨_, rfl⟩
                      have QC92 := Aside0.mk hc92
                      have hy92 : y285.length = (x14_25 : Int).toNat - (x10_1 : Int).toNat := (by rw [Ny285.out, List.length_drop, List.length_take] <;> omega)
                      rw [show ((l0).take (x14_25 : Int).toNat).drop (x10_1 : Int).toNat = y285 from Ny285.out.symm] at hr92
                      replace hr92 : Kd.F Kd.string _ _ A92 y285.length y285 := (by rw [hA92]; exact hr92)
                      rw [← hy92, ← hA92, ← hc92] at hcut92
                      have HO289 := Aside0.mk (show Kd.V Kd.string 9 _ w.heap.size _ (.slice A92 y285.length c92) y285 from Kd.V_mk (by rw [hy92, hc92]; exact Nat.sub_le_sub_right (Nat.le_trans (by omega) hroom92) _) hr92)
                      have HC289 := Aside0.mk (show y285.length ≤ c92 from by rw [hy92, hc92]; exact Nat.sub_le_sub_right (Nat.le_trans (by omega) hroom92) _)
                      clear hr92 hC92 hroom92 hi092 hsz92 hc92
                      have KY92 := Aside0.mk hy92
                      have KA92 := Aside0.mk hA92
                      clear hy92 hA92
                      replace q92 := eq_true q92
                      have q93 : ((l1.length : Int) : Int) ≤ ((l1.length : Int) : Int) := of_decide_eq_true (by first | (with_reducible assumption) | assumption)
                      obtain ⟨i093, hi093, _, hsz93, _⟩ := info_parts info9
                      have hroom93 : l1.length ≤ c1 := (Kd.V_reads' HO_1.out).2.1
                      have hC93 : Kd.F Kd.string _ _ A1 l1.length l1 := (Kd.V_at (base := w.heap.size) HO_1.out).2.2
                      have ql93 : (x11_1 : Int) ≤ ((l1.length : Int) : Int) := of_decide_eq_true (by first | (with_reducible assumption) | assumption)
                      have q093 : (0 : Int) ≤ (x11_1 : Int) := of_decide_eq_true (by first | (with_reducible assumption) | assumption)
                      have hcut93 := cut_mid (P := Tryd.prog) 22 9 .i64 .i64 Tryd.underlying22 hi093 1 hsz93 A1 l1.length c1 x11_1 (l1.length : Int) q093 ql93 q93 hroom93
                      have hr93 := Kd.F_mid (lo := (x11_1 : Int).toNat) (hi := ((l1.length : Int) : Int).toNat) (c := c1) hC93 (by omega) (by omega) hroom93
                      obtain ⟨A93, hA93⟩ : ∃ Az_, Az_ = (if c1 = (x11_1 : Int).toNat then A1 else (A1 : Option Addr).map (·.add ((x11_1 : Int).toNat * 1))) := ⟨_, rfl⟩
                      have QA93 := Aside0.mk hA93
                      obtain ⟨c93, hc93⟩ : ∃ cz_, cz_ = c1 - (x11_1 : Int).toNat := ⟨_, rfl⟩
                      have QC93 := Aside0.mk hc93
                      have hy93 : y290.length = ((l1.length : Int) : Int).toNat - (x11_1 : Int).toNat := (by rw [Ny290.out, List.length_drop, List.length_take] <;> omega)
                      rw [show ((l1).take ((l1.length : Int) : Int).toNat).drop (x11_1 : Int).toNat = y290 from Ny290.out.symm] at hr93
                      replace hr93 : Kd.F Kd.string _ _ A93 y290.length y290 := (by rw [hA93]; exact hr93)
                      rw [← hy93, ← hA93, ← hc93] at hcut93
                      have HO294 := Aside0.mk (show Kd.V Kd.string 9 _ w.heap.size _ (.slice A93 y290.length c93) y290 from Kd.V_mk (by rw [hy93, hc93]; exact Nat.sub_le_sub_right (Nat.le_trans (by omega) hroom93) _) hr93)
                      have HC294 := Aside0.mk (show y290.length ≤ c93 from by rw [hy93, hc93]; exact Nat.sub_le_sub_right (Nat.le_trans (by omega) hroom93) _)
                      clear hr93 hC93 hroom93 hi093 hsz93 hc93
                      have KY93 := Aside0.mk hy93
                      have KA93 := Aside0.mk hA93
                      clear hy93 hA93
                      replace q93 := eq_true q93
                      have q94 : ((l2.length : Int) : Int) ≤ ((l2.length : Int) : Int) := of_decide_eq_true (by first | (with_reducible assumption) | assumption)
                      obtain ⟨i094, hi094, _, hsz94, _⟩ := info_parts info9
                      have hroom94 : l2.length ≤ c2 := (Kd.V_reads' HO_2.out).2.1
                      have hC94 : Kd.F Kd.string _ _ A2 l2.length l2 := (Kd.V_at (base := w.heap.size) HO_2.out).2.2
                      have ql94 : (x12_1 : Int) ≤ ((l2.length : Int) : Int) := of_decide_eq_true (by first | (with_reducible assumption) | assumption)
                      have q094 : (0 : Int) ≤ (x12_1 : Int) := of_decide_eq_true (by first | (with_reducible assumption) | assumption)
                      have hcut94 := cut_mid (P := Tryd.prog) 22 9 .i64 .i64 Tryd.underlying22 hi094 1 hsz94 A2 l2.length c2 x12_1 (l2.length : Int) q094 ql94 q94 hroom94
                      have hr94 := Kd.F_mid (lo := (x12_1 : Int).toNat) (hi := ((l2.length : Int) : Int).toNat) (c := c2) hC94 (by omega) (by omega) hroom94
                      obtain ⟨A94, hA94⟩ : ∃ Az_, Az_ = (if c2 = (x12_1 : Int).toNat then A2 else (A2 : Option Addr).map (·.add ((x12_1 : Int).toNat * 1))) := ⟨_, rfl⟩
                      have QA94 := Aside0.mk hA94
                      obtain ⟨c94, hc94⟩ : ∃ cz_, cz_ = c2 - (x12_1 : Int).toNat := ⟨_, rfl⟩
                      have QC94 := Aside0.mk hc94
                      have hy94 : y295.length = ((l2.length : Int) : Int).toNat - (x12_1 : Int).toNat := (by rw [Ny295.out, List.length_drop, List.length_take] <;> omega)
                      rw [show ((l2).take ((l2.length : Int) : Int).toNat).drop (x12_1 : Int).toNat = y295 from Ny295.out.symm] at hr94
                      replace hr94 : Kd.F Kd.string _ _ A94 y295.length y295 := (by rw [hA94]; exact hr94)
                      rw [← hy94, ← hA94, ← hc94] at hcut94
                      have HO299 := Aside0.mk (show Kd.V Kd.string 9 _ w.heap.size _ (.slice A94 y295.length c94) y295 from Kd.V_mk (by rw [hy94, hc94]; exact Nat.sub_le_sub_right (Nat.le_trans (by omega) hroom94) _) hr94)
                      have HC299 := Aside0.mk (show y295.length ≤ c94 from by rw [hy94, hc94]; exact Nat.sub_le_sub_right (Nat.le_trans (by omega) hroom94) _)
                      clear hr94 hC94 hroom94 hi094 hsz94 hc94
                      have KY94 := Aside0.mk hy94
                      have KA94 := Aside0.mk hA94
                      clear hy94 hA94
                      replace q94 := eq_true q94
                      refine start_ (n := 14) (S := fun w' => True) (ds := []) #[false, false, false, false, false, false, false, false, false, false, false, false, false, false] (by kernel_rfl) rfl rfl trivial (fun hHeld => ?_); refine with_tabW pollardref19_Chunks.tab14 pollardref19_Chunks.bits14 (fun HT_ HW_ => ?_)
                      generalize wc.drew = w91 at HO_0 HO_1 HO_2 HO_7 HO_8 HO_9 HB HO289 HO294 HO299 hHeld ⊢
                      refine pure_ (i := 0) (N := some 114) (v := ?_) (a' := ?_) #[true, false, false, false, false, false, false, false, false, false, false, false, false, false] rfl rfl (any_of HT_.out (by kernel_rfl)) (fun _ _ _ h => h) (Or.inl ⟨by rfl, ?_⟩) ?_ ?_
                      rotate_left
                      · intro w'
                        go_simp
                        with_reducible rfl
                      rotate_left
                      · simp only [Act.put, List.setIfInBounds_toArray, List.set_cons_zero, List.set_cons_succ, i64_w, i32_w]
                        rfl
                      refine pure_ (i := 1) (N := some 115) (v := ?_) (a' := ?_) #[true, true, false, false, false, false, false, false, false, false, false, false, false, false] rfl rfl (any_of HT_.out (by kernel_rfl)) (fun _ _ _ h => h) (Or.inl ⟨by rfl, ?_⟩) ?_ ?_
                      rotate_left
                      · intro w'
                        go_simp
                        with_reducible rfl
                      rotate_left
                      · simp only [Act.put, List.setIfInBounds_toArray, List.set_cons_zero, List.set_cons_succ, i64_w, i32_w]
                        rfl
                      refine pure_ (i := 2) (N := some 116) (v := ?_) (a' := ?_) #[true, true, true, false, false, false, false, false, false, false, false, false, false, false] rfl rfl (any_of HT_.out (by kernel_rfl)) (fun _ _ _ h => h) (Or.inl ⟨by rfl, ?_⟩) ?_ ?_
                      rotate_left
                      · intro w'
                        go_simp
                        with_reducible rfl
                      rotate_left
                      · simp only [Act.put, List.setIfInBounds_toArray, List.set_cons_zero, List.set_cons_succ, i64_w, i32_w]
                        rfl
                      refine pure_ (i := 3) (N := some 117) (v := ?_) (a' := ?_) #[true, true, true, true, false, false, false, false, false, false, false, false, false, false] rfl rfl (any_of HT_.out (by kernel_rfl)) (fun _ _ _ h => h) (Or.inl ⟨by rfl, ?_⟩) ?_ ?_
                      rotate_left
                      · intro w'
                        go_simp
                        with_reducible rfl
                      rotate_left
                      · simp only [Act.put, List.setIfInBounds_toArray, List.set_cons_zero, List.set_cons_succ, i64_w, i32_w]
                        rfl
                      refine pure_ (i := 4) (N := some 118) (v := ?_) (a' := ?_) #[true, true, true, true, true, false, false, false, false, false, false, false, false, false] rfl rfl (any_of HT_.out (by kernel_rfl)) (fun _ _ _ h => h) (Or.inl ⟨by rfl, ?_⟩) ?_ ?_
                      rotate_left
                      · intro w'
                        go_simp
                        with_reducible rfl
                      rotate_left
                      · simp only [Act.put, List.setIfInBounds_toArray, List.set_cons_zero, List.set_cons_succ, i64_w, i32_w]
                        rfl
                      refine pure_ (i := 5) (N := some 119) (v := ?_) (a' := ?_) #[true, true, true, true, true, true, false, false, false, false, false, false, false, false] rfl rfl (any_of HT_.out (by kernel_rfl)) (fun _ _ _ h => h) (Or.inl ⟨by rfl, ?_⟩) ?_ ?_
                      rotate_left
                      · intro w'
                        go_simp
                        with_reducible rfl
                      rotate_left
                      · simp only [Act.put, List.setIfInBounds_toArray, List.set_cons_zero, List.set_cons_succ, i64_w, i32_w]
                        rfl
                      refine pure_ (i := 6) (N := some 120) (v := ?_) (a' := ?_) #[true, true, true, true, true, true, true, false, false, false, false, false, false, false] rfl rfl (any_of HT_.out (by kernel_rfl)) (fun _ _ _ h => h) (Or.inl ⟨by rfl, ?_⟩) ?_ ?_
                      rotate_left
                      · intro w'
                        go_simp
                        with_reducible rfl
                      rotate_left
                      · simp only [Act.put, List.setIfInBounds_toArray, List.set_cons_zero, List.set_cons_succ, i64_w, i32_w]
                        rfl
                      refine pure_ (i := 7) (N := some 121) (v := ?_) (a' := ?_) #[true, true, true, true, true, true, true, true, false, false, false, false, false, false] rfl rfl (any_of HT_.out (by kernel_rfl)) (fun _ _ _ h => h) (Or.inl ⟨by rfl, ?_⟩) ?_ ?_
                      rotate_left
                      · intro w'
                        go_simp
                        with_reducible rfl
                      rotate_left
                      · simp only [Act.put, List.setIfInBounds_toArray, List.set_cons_zero, List.set_cons_succ, i64_w, i32_w]
                        rfl
                      refine pure_ (i := 8) (N := some 122) (v := ?_) (a' := ?_) #[true, true, true, true, true, true, true, true, true, false, false, false, false, false] rfl rfl (any_of HT_.out (by kernel_rfl)) (fun _ _ _ h => h) (Or.inl ⟨by rfl, ?_⟩) ?_ ?_
                      rotate_left
                      · intro w'
                        go_simp
                        with_reducible rfl
                      rotate_left
                      · simp only [Act.put, List.setIfInBounds_toArray, List.set_cons_zero, List.set_cons_succ, i64_w, i32_w]
                        rfl
                      refine pure_ (i := 9) (N := some 123) (v := ?_) (a' := ?_) #[true, true, true, true, true, true, true, true, true, true, false, false, false, false] rfl rfl (any_of HT_.out (by kernel_rfl)) (fun _ _ _ h => h) (Or.inl ⟨by rfl, ?_⟩) ?_ ?_
                      rotate_left
                      · intro w'
                        go_simp
                        with_reducible rfl
                      rotate_left
                      · simp only [Act.put, List.setIfInBounds_toArray, List.set_cons_zero, List.set_cons_succ, i64_w, i32_w]
                        rfl
                      refine pure_ (i := 10) (N := some 124) (v := ?_) (a' := ?_) #[true, true, true, true, true, true, true, true, true, true, true, false, false, false] rfl rfl (any_of HT_.out (by kernel_rfl)) (fun _ _ _ h => h) (Or.inl ⟨by rfl, ?_⟩) ?_ ?_
                      rotate_left
                      · intro w'
                        go_simp
                        with_reducible rfl
                      rotate_left
                      · simp only [Act.put, List.setIfInBounds_toArray, List.set_cons_zero, List.set_cons_succ, i64_w, i32_w]
                        rfl
                      refine pure_ (i := 11) (N := some 125) (v := ?_) (a' := ?_) #[true, true, true, true, true, true, true, true, true, true, true, true, false, false] rfl rfl (any_of HT_.out (by kernel_rfl)) (fun _ _ _ h => h) (Or.inl ⟨by rfl, ?_⟩) ?_ ?_
                      rotate_left
                      · intro w'
                        go_simp
                        with_reducible rfl
                      rotate_left
                      · simp only [Act.put, List.setIfInBounds_toArray, List.set_cons_zero, List.set_cons_succ, i64_w, i32_w]
                        rfl
                      refine one_ (i := 12) (N := some 126) #[true, true, true, true, true, true, true, true, true, true, true, true, true, false] rfl rfl (one_of HT_.out (by kernel_rfl)) (by decide) (fun K hK => ?_)
                      refine goes_ Tryd.func23 (by kernel_rfl) rfl #[.slice A92 y285.length c92, .slice A93 y290.length c93, .slice A94 y295.length c94] (by rfl) rfl rfl (by (try simp only [List.map_toArray, List.map_cons, List.map_nil]); first | done | rfl | (simp only [List.length_drop, List.length_take]; rfl)) ?_
                      with_reducible refine (pollardref19_kind.calls kj25 _ _ y285 _ _ y290 _ _ y295 t300 _ ?side1 ?side2 ?side3 ?side4 ?side5 ?side6 A80.out).mono ?_
                      (case side1 => repeat (first | exact (Kd.V_reads' HO289.out).2.2 | (with_reducible refine Kd.C_alloc ?_ _) | (with_reducible refine Kd.C_drewN ?_ _) | (with_reducible refine Kd.C_drew ?_)))
                      (case side2 => exact (Kd.V_reads' HO289.out).2.1)
                      (case side3 => repeat (first | exact (Kd.V_reads' HO294.out).2.2 | (with_reducible refine Kd.C_alloc ?_ _) | (with_reducible refine Kd.C_drewN ?_ _) | (with_reducible refine Kd.C_drew ?_)))
                      (case side4 => exact (Kd.V_reads' HO294.out).2.1)
                      (case side5 => repeat (first | exact (Kd.V_reads' HO299.out).2.2 | (with_reducible refine Kd.C_alloc ?_ _) | (with_reducible refine Kd.C_drewN ?_ _) | (with_reducible refine Kd.C_drew ?_)))
                      (case side6 => exact (Kd.V_reads' HO299.out).2.1)
                      rintro e w' ⟨rfl, ⟨nd, rfl⟩⟩
                      refine ⟨_, rfl, ?_⟩
                      refine hK.out _ _ trivial (fun hHeld => ?_)
                      clear hK K
                      refine norm_ (a' := ?_) ?_ ?_
                      rotate_left
                      · show Act.put _ (some 126) _ = _
                        simp only [Act.put, List.setIfInBounds_toArray, List.set_cons_zero, List.set_cons_succ, i64_w, i32_w]
                        rfl
                      refine pure_ (i := 13) (N := some 17) (v := ?_) (a' := ?_) #[true, true, true, true, true, true, true, true, true, true, true, true, true, true] rfl rfl (any_of HT_.out (by kernel_rfl)) (fun _ _ _ h => h) (Or.inl ⟨by rfl, ?_⟩) ?_ ?_
                      rotate_left
                      · intro w'
                        go_simp
                        with_reducible rfl
                      rotate_left
                      · simp only [Act.put, List.setIfInBounds_toArray, List.set_cons_zero, List.set_cons_succ, i64_w, i32_w]
                        rfl
                      refine done_ (done_of HT_.out (by kernel_rfl)) ?_
                      try go_wp2
                      (try (rw [drewN_self w91]; generalize hq_ : World.drewN w91 _ = w91; have n0_ : Aside0 (Kd.V Kd.string 9 w91 w.heap.size (fun k_ => ((P0_ k_ ∨ P1_ k_ ∨ P2_ k_) ∨ w.heap.size ≤ k_) ∧ some k_ ≠ (v237 : Value).ownBlock ∧ some k_ ≠ (v240 : Value).ownBlock ∧ some k_ ≠ (u9 : Value).ownBlock) (.slice A92 y285.length c92) y285) := ⟨by rw [← hq_]; exact (by (with_reducible repeat (first | apply Kd.V_alloc | apply Kd.V_drewN | apply Kd.V_drew)); exact HO289.out)⟩; have n1_ : Aside0 (Kd.V Kd.string 9 w91 w.heap.size (fun k_ => ((P0_ k_ ∨ P1_ k_ ∨ P2_ k_) ∨ w.heap.size ≤ k_) ∧ some k_ ≠ (v237 : Value).ownBlock ∧ some k_ ≠ (v240 : Value).ownBlock ∧ some k_ ≠ (u9 : Value).ownBlock) (.slice A93 y290.length c93) y290) := ⟨by rw [← hq_]; exact (by (with_reducible repeat (first | apply Kd.V_alloc | apply Kd.V_drewN | apply Kd.V_drew)); exact HO294.out)⟩; have n2_ : Aside0 (Kd.V Kd.string 9 w91 w.heap.size (fun k_ => ((P0_ k_ ∨ P1_ k_ ∨ P2_ k_) ∨ w.heap.size ≤ k_) ∧ some k_ ≠ (v237 : Value).ownBlock ∧ some k_ ≠ (v240 : Value).ownBlock ∧ some k_ ≠ (u9 : Value).ownBlock) (.slice A94 y295.length c94) y295) := ⟨by rw [← hq_]; exact (by (with_reducible repeat (first | apply Kd.V_alloc | apply Kd.V_drewN | apply Kd.V_drew)); exact HO299.out)⟩; have n3_ : Aside0 (Kd.V Kd.string 9 w91 w.heap.size (fun k_ => ((P0_ k_ ∨ P1_ k_ ∨ P2_ k_) ∨ w.heap.size ≤ k_) ∧ some k_ ≠ (v237 : Value).ownBlock ∧ some k_ ≠ (v240 : Value).ownBlock ∧ some k_ ≠ (u9 : Value).ownBlock) (.slice A0 l0.length c0) l0) := ⟨by rw [← hq_]; exact (by (with_reducible repeat (first | apply Kd.V_alloc | apply Kd.V_drewN | apply Kd.V_drew)); exact HO_0.out)⟩; have n4_ : Aside0 (Kd.V Kd.string 9 w91 w.heap.size (fun k_ => ((P0_ k_ ∨ P1_ k_ ∨ P2_ k_) ∨ w.heap.size ≤ k_) ∧ some k_ ≠ (v237 : Value).ownBlock ∧ some k_ ≠ (v240 : Value).ownBlock ∧ some k_ ≠ (u9 : Value).ownBlock) (.slice A1 l1.length c1) l1) := ⟨by rw [← hq_]; exact (by (with_reducible repeat (first | apply Kd.V_alloc | apply Kd.V_drewN | apply Kd.V_drew)); exact HO_1.out)⟩; have n5_ : Aside0 (Kd.V Kd.string 9 w91 w.heap.size (fun k_ => ((P0_ k_ ∨ P1_ k_ ∨ P2_ k_) ∨ w.heap.size ≤ k_) ∧ some k_ ≠ (v237 : Value).ownBlock ∧ some k_ ≠ (v240 : Value).ownBlock ∧ some k_ ≠ (u9 : Value).ownBlock) (.slice A2 l2.length c2) l2) := ⟨by rw [← hq_]; exact (by (with_reducible repeat (first | apply Kd.V_alloc | apply Kd.V_drewN | apply Kd.V_drew)); exact HO_2.out)⟩; have n6_ : Aside0 (Kd.R k70 70 w91 w.heap.size (fun k_ => (w.heap.size ≤ k_) ∧ some k_ ≠ (v240 : Value).ownBlock) v237 t236) := ⟨by rw [← hq_]; exact (by (with_reducible repeat (first | apply Kd.R_alloc | apply Kd.R_drewN | apply Kd.R_drew)); exact HO_7.out)⟩; have n7_ : Aside0 (Kd.R k70 70 w91 w.heap.size (fun k_ => (w.heap.size ≤ k_) ∧ some k_ ≠ (v237 : Value).ownBlock) v240 t239) := ⟨by rw [← hq_]; exact (by (with_reducible repeat (first | apply Kd.R_alloc | apply Kd.R_drewN | apply Kd.R_drew)); exact HO_8.out)⟩; have n8_ : Aside0 (Kd.N k33 33 w91 w.heap.size (fun k_ => ((P0_ k_ ∨ P1_ k_ ∨ P2_ k_) ∨ w.heap.size ≤ k_) ∧ some k_ ≠ (v237 : Value).ownBlock ∧ some k_ ≠ (v240 : Value).ownBlock) u9 x9_1) := ⟨by rw [← hq_]; exact (by (with_reducible repeat (first | apply Kd.N_alloc | apply Kd.N_drewN | apply Kd.N_drew)); exact HO_9.out)⟩; have n9_ : Aside0 (Below w.heap.size w w91) := ⟨by rw [← hq_]; exact (by repeat (first | (with_reducible first | exact HB.out | apply below_alloc | apply pw_below_drewN | apply below_drew1) | exact HB.out))⟩; clear HO289 HO294 HO299 HO_0 HO_1 HO_2 HO_7 HO_8 HO_9 HB hq_; have HO289 := n0_; have HO294 := n1_; have HO299 := n2_; have HO_0 := n3_; have HO_1 := n4_; have HO_2 := n5_; have HO_7 := n6_; have HO_8 := n7_; have HO_9 := n8_; have HB := n9_; clear n0_ n1_ n2_ n3_ n4_ n5_ n6_ n7_ n8_ n9_))
                      have n0_ := Aside0.mk (Kd.V_drew HO_0.out)
                      have n1_ := Aside0.mk (Kd.V_drew HO_1.out)
                      have n2_ := Aside0.mk (Kd.V_drew HO_2.out)
                      have n3_ := Aside0.mk (Kd.R_drew HO_7.out)
                      have n4_ := Aside0.mk (Kd.R_drew HO_8.out)
                      have n5_ := Aside0.mk (Kd.N_drew HO_9.out)
                      have n6_ := Aside0.mk (Kd.V_drew HO289.out)
                      have n7_ := Aside0.mk (Kd.V_drew HO294.out)
                      have n8_ := Aside0.mk (Kd.V_drew HO299.out)
                      have n9_ := Aside0.mk (below_drew1 HB.out)
                      clear HO_0
                      clear HO_1
                      clear HO_2
                      clear HO_7
                      clear HO_8
                      clear HO_9
                      clear HO289
                      clear HO294
                      clear HO299
                      clear HB
                      have HO_0 := n0_
                      have HO_1 := n1_
                      have HO_2 := n2_
                      have HO_7 := n3_
                      have HO_8 := n4_
                      have HO_9 := n5_
                      have HO289 := n6_
                      have HO294 := n7_
                      have HO299 := n8_
                      have HB := n9_
                      clear n0_ n1_ n2_ n3_ n4_ n5_ n6_ n7_ n8_ n9_
                      have q96 : (x14_25 : Int) ≤ ((l0.length : Int) : Int) := of_decide_eq_true (by first | (with_reducible assumption) | assumption)
                      obtain ⟨i096, hi096, _, hsz96, _⟩ := info_parts info9
                      have hroom96 : l0.length ≤ c0 := (Kd.V_reads' HO_0.out).2.1
                      have hC96 : Kd.F Kd.string _ _ A0 l0.length l0 := (Kd.V_at (base := w.heap.size) HO_0.out).2.2
                      have ql96 : (x10_1 : Int) ≤ (x14_25 : Int) := of_decide_eq_true (by first | (with_reducible assumption) | assumption)
                      have q096 : (0 : Int) ≤ (x10_1 : Int) := of_decide_eq_true (by first | (with_reducible assumption) | assumption)
                      have hcut96 := cut_mid (P := Tryd.prog) 22 9 .i64 .i64 Tryd.underlying22 hi096 1 hsz96 A0 l0.length c0 x10_1 x14_25 q096 ql96 q96 hroom96
                      have hr96 := Kd.F_mid (lo := (x10_1 : Int).toNat) (hi := (x14_25 : Int).toNat) (c := c0) hC96 (by omega) (by omega) hroom96
                      obtain ⟨A96, hA96⟩ : ∃ Az_, Az_ = (if c0 = (x10_1 : Int).toNat then A0 else (A0 : Option Addr).map (·.add ((x10_1 : Int).toNat * 1))) := ⟨_, rfl⟩
                      have QA96 := Aside0.mk hA96
                      obtain ⟨c96, hc96⟩ : ∃ cz_, cz_ = c0 - (x10_1 : Int).toNat := ⟨_, rfl⟩
                      have QC96 := Aside0.mk hc96
                      have hy96 : y301.length = (x14_25 : Int).toNat - (x10_1 : Int).toNat := (by rw [Ny301.out, List.length_drop, List.length_take] <;> omega)
                      rw [show ((l0).take (x14_25 : Int).toNat).drop (x10_1 : Int).toNat = y301 from Ny301.out.symm] at hr96
                      replace hr96 : Kd.F Kd.string _ _ A96 y301.length y301 := (by rw [hA96]; exact hr96)
                      rw [← hy96, ← hA96, ← hc96] at hcut96
                      have HO305 := Aside0.mk (show Kd.V Kd.string 9 _ w.heap.size _ (.slice A96 y301.length c96) y301 from Kd.V_mk (by rw [hy96, hc96]; exact Nat.sub_le_sub_right (Nat.le_trans (by omega) hroom96) _) hr96)
                      have HC305 := Aside0.mk (show y301.length ≤ c96 from by rw [hy96, hc96]; exact Nat.sub_le_sub_right (Nat.le_trans (by omega) hroom96) _)
                      clear hr96 hC96 hroom96 hi096 hsz96 hc96
                      have KY96 := Aside0.mk hy96
                      have KA96 := Aside0.mk hA96
                      clear hy96 hA96
                      replace q96 := eq_true q96
                      have q97 : ((l1.length : Int) : Int) ≤ ((l1.length : Int) : Int) := of_decide_eq_true (by first | (with_reducible assumption) | assumption)
                      obtain ⟨i097, hi097, _, hsz97, _⟩ := info_parts info9
                      have hroom97 : l1.length ≤ c1 := (Kd.V_reads' HO_1.out).2.1
                      have hC97 : Kd.F Kd.string _ _ A1 l1.length l1 := (Kd.V_at (base := w.heap.size) HO_1.out).2.2
                      have ql97 : (x11_1 : Int) ≤ ((l1.length : Int) : Int) := of_decide_eq_true (by first | (with_reducible assumption) | assumption)
                      have q097 : (0 : Int) ≤ (x11_1 : Int) := of_decide_eq_true (by first | (with_reducible assumption) | assumption)
                      have hcut97 := cut_mid (P := Tryd.prog) 22 9 .i64 .i64 Tryd.underlying22 hi097 1 hsz97 A1 l1.length c1 x11_1 (l1.length : Int) q097 ql97 q97 hroom97
                      have hr97 := Kd.F_mid (lo := (x11_1 : Int).toNat) (hi := ((l1.length : Int) : Int).toNat) (c := c1) hC97 (by omega) (by omega) hroom97
                      obtain ⟨A97, hA97⟩ : ∃ Az_, Az_ = (if c1 = (x11_1 : Int).toNat then A1 else (A1 : Option Addr).map (·.add ((x11_1 : Int).toNat * 1))) := ⟨_, rfl⟩
                      have QA97 := Aside0.mk hA97
                      obtain ⟨c97, hc97⟩ : ∃ cz_, cz_ = c1 - (x11_1 : Int).toNat := ⟨_, rfl⟩
                      have QC97 := Aside0.mk hc97
                      have hy97 : y306.length = ((l1.length : Int) : Int).toNat - (x11_1 : Int).toNat := (by rw [Ny306.out, List.length_drop, List.length_take] <;> omega)
                      rw [show ((l1).take ((l1.length : Int) : Int).toNat).drop (x11_1 : Int).toNat = y306 from Ny306.out.symm] at hr97
                      replace hr97 : Kd.F Kd.string _ _ A97 y306.length y306 := (by rw [hA97]; exact hr97)
                      rw [← hy97, ← hA97, ← hc97] at hcut97
                      have HO310 := Aside0.mk (show Kd.V Kd.string 9 _ w.heap.size _ (.slice A97 y306.length c97) y306 from Kd.V_mk (by rw [hy97, hc97]; exact Nat.sub_le_sub_right (Nat.le_trans (by omega) hroom97) _) hr97)
                      have HC310 := Aside0.mk (show y306.length ≤ c97 from by rw [hy97, hc97]; exact Nat.sub_le_sub_right (Nat.le_trans (by omega) hroom97) _)
                      clear hr97 hC97 hroom97 hi097 hsz97 hc97
                      have KY97 := Aside0.mk hy97
                      have KA97 := Aside0.mk hA97
                      clear hy97 hA97
                      replace q97 := eq_true q97
                      have q98 : ((l2.length : Int) : Int) ≤ ((l2.length : Int) : Int) := of_decide_eq_true (by first | (with_reducible assumption) | assumption)
                      obtain ⟨i098, hi098, _, hsz98, _⟩ := info_parts info9
                      have hroom98 : l2.length ≤ c2 := (Kd.V_reads' HO_2.out).2.1
                      have hC98 : Kd.F Kd.string _ _ A2 l2.length l2 := (Kd.V_at (base := w.heap.size) HO_2.out).2.2
                      have ql98 : (x12_1 : Int) ≤ ((l2.length : Int) : Int) := of_decide_eq_true (by first | (with_reducible assumption) | assumption)
                      have q098 : (0 : Int) ≤ (x12_1 : Int) := of_decide_eq_true (by first | (with_reducible assumption) | assumption)
                      have hcut98 := cut_mid (P := Tryd.prog) 22 9 .i64 .i64 Tryd.underlying22 hi098 1 hsz98 A2 l2.length c2 x12_1 (l2.length : Int) q098 ql98 q98 hroom98
                      have hr98 := Kd.F_mid (lo := (x12_1 : Int).toNat) (hi := ((l2.length : Int) : Int).toNat) (c := c2) hC98 (by omega) (by omega) hroom98
                      obtain ⟨A98, hA98⟩ : ∃ Az_, Az_ = (if c2 = (x12_1 : Int).toNat then A2 else (A2 : Option Addr).map (·.add ((x12_1 : Int).toNat * 1))) := ⟨_, rfl⟩
                      have QA98 := Aside0.mk hA98
                      obtain ⟨c98, hc98⟩ : ∃ cz_, cz_ = c2 - (x12_1 : Int).toNat := ⟨_, rfl⟩
                      have QC98 := Aside0.mk hc98
                      have hy98 : y311.length = ((l2.length : Int) : Int).toNat - (x12_1 : Int).toNat := (by rw [Ny311.out, List.length_drop, List.length_take] <;> omega)
                      rw [show ((l2).take ((l2.length : Int) : Int).toNat).drop (x12_1 : Int).toNat = y311 from Ny311.out.symm] at hr98
                      replace hr98 : Kd.F Kd.string _ _ A98 y311.length y311 := (by rw [hA98]; exact hr98)
                      rw [← hy98, ← hA98, ← hc98] at hcut98
                      have HO315 := Aside0.mk (show Kd.V Kd.string 9 _ w.heap.size _ (.slice A98 y311.length c98) y311 from Kd.V_mk (by rw [hy98, hc98]; exact Nat.sub_le_sub_right (Nat.le_trans (by omega) hroom98) _) hr98)
                      have HC315 := Aside0.mk (show y311.length ≤ c98 from by rw [hy98, hc98]; exact Nat.sub_le_sub_right (Nat.le_trans (by omega) hroom98) _)
                      clear hr98 hC98 hroom98 hi098 hsz98 hc98
                      have KY98 := Aside0.mk hy98
                      have KA98 := Aside0.mk hA98
                      clear hy98 hA98
                      replace q98 := eq_true q98
                      refine start_ (n := 18) (S := fun w' => True) (ds := []) #[false, false, false, false, false, false, false, false, false, false, false, false, false, false, false, false, false, false] (by kernel_rfl) rfl rfl trivial (fun hHeld => ?_); refine with_tabW pollardref19_Chunks.tab15 pollardref19_Chunks.bits15 (fun HT_ HW_ => ?_)
                      generalize w91.drew = w95 at HO_0 HO_1 HO_2 HO_7 HO_8 HO_9 HO289 HO294 HO299 HB HO305 HO310 HO315 hHeld ⊢
                      refine pure_ (i := 0) (N := some 127) (v := ?_) (a' := ?_) #[true, false, false, false, false, false, false, false, false, false, false, false, false, false, false, false, false, false] rfl rfl (any_of HT_.out (by kernel_rfl)) (fun _ _ _ h => h) (Or.inl ⟨by rfl, ?_⟩) ?_ ?_
                      rotate_left
                      · intro w'
                        go_simp
                        with_reducible rfl
                      rotate_left
                      · simp only [Act.put, List.setIfInBounds_toArray, List.set_cons_zero, List.set_cons_succ, i64_w, i32_w]
                        rfl
                      refine pure_ (i := 1) (N := some 128) (v := ?_) (a' := ?_) #[true, true, false, false, false, false, false, false, false, false, false, false, false, false, false, false, false, false] rfl rfl (any_of HT_.out (by kernel_rfl)) (fun _ _ _ h => h) (Or.inl ⟨by rfl, ?_⟩) ?_ ?_
                      rotate_left
                      · intro w'
                        go_simp
                        with_reducible rfl
                      rotate_left
                      · simp only [Act.put, List.setIfInBounds_toArray, List.set_cons_zero, List.set_cons_succ, i64_w, i32_w]
                        rfl
                      refine pure_ (i := 2) (N := some 129) (v := ?_) (a' := ?_) #[true, true, true, false, false, false, false, false, false, false, false, false, false, false, false, false, false, false] rfl rfl (any_of HT_.out (by kernel_rfl)) (fun _ _ _ h => h) (Or.inl ⟨by rfl, ?_⟩) ?_ ?_
                      rotate_left
                      · intro w'
                        go_simp
                        with_reducible rfl
                      rotate_left
                      · simp only [Act.put, List.setIfInBounds_toArray, List.set_cons_zero, List.set_cons_succ, i64_w, i32_w]
                        rfl
                      refine pure_ (i := 3) (N := some 130) (v := ?_) (a' := ?_) #[true, true, true, true, false, false, false, false, false, false, false, false, false, false, false, false, false, false] rfl rfl (any_of HT_.out (by kernel_rfl)) (fun _ _ _ h => h) (Or.inl ⟨by rfl, ?_⟩) ?_ ?_
                      rotate_left
                      · intro w'
                        go_simp
                        with_reducible rfl
                      rotate_left
                      · simp only [Act.put, List.setIfInBounds_toArray, List.set_cons_zero, List.set_cons_succ, i64_w, i32_w]
                        rfl
                      refine pure_ (i := 4) (N := some 131) (v := ?_) (a' := ?_) #[true, true, true, true, true, false, false, false, false, false, false, false, false, false, false, false, false, false] rfl rfl (any_of HT_.out (by kernel_rfl)) (fun _ _ _ h => h) (Or.inl ⟨by rfl, ?_⟩) ?_ ?_
                      rotate_left
                      · intro w'
                        go_simp
                        with_reducible rfl
                      rotate_left
                      · simp only [Act.put, List.setIfInBounds_toArray, List.set_cons_zero, List.set_cons_succ, i64_w, i32_w]
                        rfl
                      refine pure_ (i := 5) (N := some 132) (v := ?_) (a' := ?_) #[true, true, true, true, true, true, false, false, false, false, false, false, false, false, false, false, false, false] rfl rfl (any_of HT_.out (by kernel_rfl)) (fun _ _ _ h => h) (Or.inl ⟨by rfl, ?_⟩) ?_ ?_
                      rotate_left
                      · intro w'
                        go_simp
                        with_reducible rfl
                      rotate_left
                      · simp only [Act.put, List.setIfInBounds_toArray, List.set_cons_zero, List.set_cons_succ, i64_w, i32_w]
                        rfl
                      refine pure_ (i := 6) (N := some 133) (v := ?_) (a' := ?_) #[true, true, true, true, true, true, true, false, false, false, false, false, false, false, false, false, false, false] rfl rfl (any_of HT_.out (by kernel_rfl)) (fun _ _ _ h => h) (Or.inl ⟨by rfl, ?_⟩) ?_ ?_
                      rotate_left
                      · intro w'
                        go_simp
                        with_reducible rfl
                      rotate_left
                      · simp only [Act.put, List.setIfInBounds_toArray, List.set_cons_zero, List.set_cons_succ, i64_w, i32_w]
                        rfl
                      refine pure_ (i := 7) (N := some 134) (v := ?_) (a' := ?_) #[true, true, true, true, true, true, true, true, false, false, false, false, false, false, false, false, false, false] rfl rfl (any_of HT_.out (by kernel_rfl)) (fun _ _ _ h => h) (Or.inl ⟨by rfl, ?_⟩) ?_ ?_
                      rotate_left
                      · intro w'
                        go_simp
                        with_reducible rfl
                      rotate_left
                      · simp only [Act.put, List.setIfInBounds_toArray, List.set_cons_zero, List.set_cons_succ, i64_w, i32_w]
                        rfl
                      refine pure_ (i := 8) (N := some 135) (v := ?_) (a' := ?_) #[true, true, true, true, true, true, true, true, true, false, false, false, false, false, false, false, false, false] rfl rfl (any_of HT_.out (by kernel_rfl)) (fun _ _ _ h => h) (Or.inl ⟨by rfl, ?_⟩) ?_ ?_
                      rotate_left
                      · intro w'
                        go_simp
                        with_reducible rfl
                      rotate_left
                      · simp only [Act.put, List.setIfInBounds_toArray, List.set_cons_zero, List.set_cons_succ, i64_w, i32_w]
                        rfl
                      refine pure_ (i := 9) (N := some 136) (v := ?_) (a' := ?_) #[true, true, true, true, true, true, true, true, true, true, false, false, false, false, false, false, false, false] rfl rfl (any_of HT_.out (by kernel_rfl)) (fun _ _ _ h => h) (Or.inl ⟨by rfl, ?_⟩) ?_ ?_
                      rotate_left
                      · intro w'
                        go_simp
                        with_reducible rfl
                      rotate_left
                      · simp only [Act.put, List.setIfInBounds_toArray, List.set_cons_zero, List.set_cons_succ, i64_w, i32_w]
                        rfl
                      refine pure_ (i := 10) (N := some 137) (v := ?_) (a' := ?_) #[true, true, true, true, true, true, true, true, true, true, true, false, false, false, false, false, false, false] rfl rfl (any_of HT_.out (by kernel_rfl)) (fun _ _ _ h => h) (Or.inl ⟨by rfl, ?_⟩) ?_ ?_
                      rotate_left
                      · intro w'
                        go_simp
                        with_reducible rfl
                      rotate_left
                      · simp only [Act.put, List.setIfInBounds_toArray, List.set_cons_zero, List.set_cons_succ, i64_w, i32_w]
                        rfl
                      refine pure_ (i := 11) (N := some 138) (v := ?_) (a' := ?_) #[true, true, true, true, true, true, true, true, true, true, true, true, false, false, false, false, false, false] rfl rfl (any_of HT_.out (by kernel_rfl)) (fun _ _ _ h => h) (Or.inl ⟨by rfl, ?_⟩) ?_ ?_
                      rotate_left
                      · intro w'
                        go_simp
                        with_reducible rfl
                      rotate_left
                      · simp only [Act.put, List.setIfInBounds_toArray, List.set_cons_zero, List.set_cons_succ, i64_w, i32_w]
                        rfl
                      refine pure_ (i := 12) (N := some 139) (v := ?_) (a' := ?_) #[true, true, true, true, true, true, true, true, true, true, true, true, true, false, false, false, false, false] rfl rfl (any_of HT_.out (by kernel_rfl)) (fun _ _ _ h => h) (Or.inl ⟨by rfl, ?_⟩) ?_ ?_
                      rotate_left
                      · intro w'
                        go_simp
                        with_reducible rfl
                      rotate_left
                      · simp only [Act.put, List.setIfInBounds_toArray, List.set_cons_zero, List.set_cons_succ, i64_w, i32_w]
                        rfl
                      refine pure_ (i := 13) (N := some 140) (v := ?_) (a' := ?_) #[true, true, true, true, true, true, true, true, true, true, true, true, true, true, false, false, false, false] rfl rfl (any_of HT_.out (by kernel_rfl)) (fun _ _ _ h => h) (Or.inl ⟨by rfl, ?_⟩) ?_ ?_
                      rotate_left
                      · intro w'
                        go_simp
                        with_reducible rfl
                      rotate_left
                      · simp only [Act.put, List.setIfInBounds_toArray, List.set_cons_zero, List.set_cons_succ, i64_w, i32_w]
                        rfl
                      refine pure_ (i := 14) (N := some 141) (v := ?_) (a' := ?_) #[true, true, true, true, true, true, true, true, true, true, true, true, true, true, true, false, false, false] rfl rfl (any_of HT_.out (by kernel_rfl)) (fun _ _ _ h => h) (Or.inl ⟨by rfl, ?_⟩) ?_ ?_
                      rotate_left
                      · intro w'
                        go_simp
                        with_reducible rfl
                      rotate_left
                      · simp only [Act.put, List.setIfInBounds_toArray, List.set_cons_zero, List.set_cons_succ, i64_w, i32_w]
                        rfl
                      refine one_ (i := 15) (N := some 142) #[true, true, true, true, true, true, true, true, true, true, true, true, true, true, true, true, false, false] rfl rfl (one_of HT_.out (by kernel_rfl)) (by decide) (fun K hK => ?_)
                      refine value_ (w1 := ?_) (v := ?_) (by rfl) rfl ?_ ?_
                      rotate_left 2
                      · go_simp
                        constructor
                        · rfl
                        · rfl
                      refine hK.out _ _ trivial (fun hHeld => ?_)
                      clear hK K
                      refine norm_ (a' := ?_) ?_ ?_
                      rotate_left
                      · show Act.put _ (some 142) _ = _
                        simp only [Act.put, List.setIfInBounds_toArray, List.set_cons_zero, List.set_cons_succ, i64_w, i32_w]
                        rfl
                      refine one_ (i := 16) (N := some 143) #[true, true, true, true, true, true, true, true, true, true, true, true, true, true, true, true, true, false] rfl rfl (one_of HT_.out (by kernel_rfl)) (by decide) (fun K hK => ?_)
                      (try rw [show A92 = A96 from QA92.out.trans QA96.out.symm]); (try rw [show c92 = c96 from QC92.out.trans QC96.out.symm]); (try rw [show y285 = y301 from Qy285.out.trans Qy301.out.symm])
                      (try rw [show A93 = A97 from QA93.out.trans QA97.out.symm]); (try rw [show c93 = c97 from QC93.out.trans QC97.out.symm]); (try rw [show y290 = y306 from Qy290.out.trans Qy306.out.symm])
                      (try rw [show A94 = A98 from QA94.out.trans QA98.out.symm]); (try rw [show c94 = c98 from QC94.out.trans QC98.out.symm]); (try rw [show y295 = y311 from Qy295.out.trans Qy311.out.symm])
                      refine Kd.N_append_step k33 (w0 := w) w.heap.size (by rfl) (.tmp 127) (.tmp 142) 28 33 (.agg #[(.int .i64 0), (.slice none 0 0), (.slice none 0 0), (.slice none 0 0)]) 80 rfl Tryd.underlying28 info33 rfl (by decide) (by omega) u9 x9_1 (⟨t300, y301, y306, y311⟩ : S33) [.int .i64 t300, .slice A96 y301.length c96, .slice A97 y306.length c97, .slice A98 y311.length c98] (fun k_ => ((P0_ k_ ∨ P1_ k_ ∨ P2_ k_) ∨ w.heap.size ≤ k_) ∧ some k_ ≠ (v237 : Value).ownBlock ∧ some k_ ≠ (v240 : Value).ownBlock) (fun k_ => ((fun k_ => ((P0_ k_ ∨ P1_ k_ ∨ P2_ k_) ∨ w.heap.size ≤ k_) ∧ some k_ ≠ (v237 : Value).ownBlock ∧ some k_ ≠ (v240 : Value).ownBlock)) k_ ∧ some k_ ≠ (u9 : Value).ownBlock) rfl rfl ?aP (fun _ hk => hk) ?aF ?aO ?aB ?aS ?aL ?_
                      (case aP => exact (k33_mkF _ _ (⟨t300, y301, y306, y311⟩ : S33) (Kd.V_reads' (Kd.V_mono (ok' := (fun k_ => ((fun k_ => ((P0_ k_ ∨ P1_ k_ ∨ P2_ k_) ∨ w.heap.size ≤ k_) ∧ some k_ ≠ (v237 : Value).ownBlock ∧ some k_ ≠ (v240 : Value).ownBlock)) k_ ∧ some k_ ≠ (u9 : Value).ownBlock)) (HO305.out) (fun k_ hk => ⟨⟨hk.1, ⟨hk.2.1, hk.2.2.1⟩⟩, hk.2.2.2⟩))).2.1 (Kd.V_F (Kd.V_mono (ok' := (fun k_ => ((fun k_ => ((P0_ k_ ∨ P1_ k_ ∨ P2_ k_) ∨ w.heap.size ≤ k_) ∧ some k_ ≠ (v237 : Value).ownBlock ∧ some k_ ≠ (v240 : Value).ownBlock)) k_ ∧ some k_ ≠ (u9 : Value).ownBlock)) (HO305.out) (fun k_ hk => ⟨⟨hk.1, ⟨hk.2.1, hk.2.2.1⟩⟩, hk.2.2.2⟩))) (Kd.V_reads' (Kd.V_mono (ok' := (fun k_ => ((fun k_ => ((P0_ k_ ∨ P1_ k_ ∨ P2_ k_) ∨ w.heap.size ≤ k_) ∧ some k_ ≠ (v237 : Value).ownBlock ∧ some k_ ≠ (v240 : Value).ownBlock)) k_ ∧ some k_ ≠ (u9 : Value).ownBlock)) (HO310.out) (fun k_ hk => ⟨⟨hk.1, ⟨hk.2.1, hk.2.2.1⟩⟩, hk.2.2.2⟩))).2.1 (Kd.V_F (Kd.V_mono (ok' := (fun k_ => ((fun k_ => ((P0_ k_ ∨ P1_ k_ ∨ P2_ k_) ∨ w.heap.size ≤ k_) ∧ some k_ ≠ (v237 : Value).ownBlock ∧ some k_ ≠ (v240 : Value).ownBlock)) k_ ∧ some k_ ≠ (u9 : Value).ownBlock)) (HO310.out) (fun k_ hk => ⟨⟨hk.1, ⟨hk.2.1, hk.2.2.1⟩⟩, hk.2.2.2⟩))) (Kd.V_reads' (Kd.V_mono (ok' := (fun k_ => ((fun k_ => ((P0_ k_ ∨ P1_ k_ ∨ P2_ k_) ∨ w.heap.size ≤ k_) ∧ some k_ ≠ (v237 : Value).ownBlock ∧ some k_ ≠ (v240 : Value).ownBlock)) k_ ∧ some k_ ≠ (u9 : Value).ownBlock)) (HO315.out) (fun k_ hk => ⟨⟨hk.1, ⟨hk.2.1, hk.2.2.1⟩⟩, hk.2.2.2⟩))).2.1 (Kd.V_F (Kd.V_mono (ok' := (fun k_ => ((fun k_ => ((P0_ k_ ∨ P1_ k_ ∨ P2_ k_) ∨ w.heap.size ≤ k_) ∧ some k_ ≠ (v237 : Value).ownBlock ∧ some k_ ≠ (v240 : Value).ownBlock)) k_ ∧ some k_ ≠ (u9 : Value).ownBlock)) (HO315.out) (fun k_ hk => ⟨⟨hk.1, ⟨hk.2.1, hk.2.2.1⟩⟩, hk.2.2.2⟩)))))
                      (case aB => exact (by repeat (first | (with_reducible first | exact HB.out | apply below_alloc | apply pw_below_drewN | apply below_drew1) | exact HB.out)))
                      (case aF => exact (fun k_ hk => ⟨(.inr (Nat.le_trans (below_size (by repeat (first | (with_reducible first | exact HB.out | apply below_alloc | apply pw_below_drewN | apply below_drew1) | exact HB.out))) hk)), Kd.fresh' (Kd.R_lt (by (with_reducible repeat (first | apply Kd.R_alloc | apply Kd.R_drewN | apply Kd.R_drew)); exact HO_7.out)) k_ hk, Kd.fresh' (Kd.R_lt (by (with_reducible repeat (first | apply Kd.R_alloc | apply Kd.R_drewN | apply Kd.R_drew)); exact HO_8.out)) k_ hk⟩))
                      (case aO => exact (by (with_reducible repeat (first | apply Kd.N_alloc | apply Kd.N_drewN | apply Kd.N_drew)); exact HO_9.out))
                      (case aS => exact (below_size (by repeat (first | (with_reducible first | exact HB.out | apply below_alloc | apply pw_below_drewN | apply below_drew1) | exact HB.out))))
                      (case aL => have := LMc90.out; omega)
                      intro v317 w99 ho hb hg hat
                      rw [← Ny316.out] at ho
                      have n0_ := Aside0.mk (Kd.V_afterv (ok := (fun k_ => ((P0_ k_ ∨ P1_ k_ ∨ P2_ k_) ∨ w.heap.size ≤ k_) ∧ some k_ ≠ (v237 : Value).ownBlock ∧ some k_ ≠ (v240 : Value).ownBlock)) (by (with_reducible repeat (first | apply Kd.V_alloc | apply Kd.V_drewN | apply Kd.V_drew)); exact Kd.V_mono HO_0.out (fun _ hk => ⟨⟨hk.1, ⟨hk.2.1, hk.2.2.1⟩⟩, hk.2.2.2⟩)) hg hat)
                      have n1_ := Aside0.mk (Kd.V_afterv (ok := (fun k_ => ((P0_ k_ ∨ P1_ k_ ∨ P2_ k_) ∨ w.heap.size ≤ k_) ∧ some k_ ≠ (v237 : Value).ownBlock ∧ some k_ ≠ (v240 : Value).ownBlock)) (by (with_reducible repeat (first | apply Kd.V_alloc | apply Kd.V_drewN | apply Kd.V_drew)); exact Kd.V_mono HO_1.out (fun _ hk => ⟨⟨hk.1, ⟨hk.2.1, hk.2.2.1⟩⟩, hk.2.2.2⟩)) hg hat)
                      have n2_ := Aside0.mk (Kd.V_afterv (ok := (fun k_ => ((P0_ k_ ∨ P1_ k_ ∨ P2_ k_) ∨ w.heap.size ≤ k_) ∧ some k_ ≠ (v237 : Value).ownBlock ∧ some k_ ≠ (v240 : Value).ownBlock)) (by (with_reducible repeat (first | apply Kd.V_alloc | apply Kd.V_drewN | apply Kd.V_drew)); exact Kd.V_mono HO_2.out (fun _ hk => ⟨⟨hk.1, ⟨hk.2.1, hk.2.2.1⟩⟩, hk.2.2.2⟩)) hg hat)
                      have n3_ := Aside0.mk (Kd.R_over' (by (with_reducible repeat (first | apply Kd.R_alloc | apply Kd.R_drewN | apply Kd.R_drew)); exact HO_7.out) (Kd.N_typed (by (with_reducible repeat (first | apply Kd.N_alloc | apply Kd.N_drewN | apply Kd.N_drew)); exact HO_9.out)) (by decide) hg)
                      have n4_ := Aside0.mk (Kd.R_over' (by (with_reducible repeat (first | apply Kd.R_alloc | apply Kd.R_drewN | apply Kd.R_drew)); exact HO_8.out) (Kd.N_typed (by (with_reducible repeat (first | apply Kd.N_alloc | apply Kd.N_drewN | apply Kd.N_drew)); exact HO_9.out)) (by decide) hg)
                      have n5_ := Aside0.mk (Kd.V_afterv (ok := (fun k_ => ((P0_ k_ ∨ P1_ k_ ∨ P2_ k_) ∨ w.heap.size ≤ k_) ∧ some k_ ≠ (v237 : Value).ownBlock ∧ some k_ ≠ (v240 : Value).ownBlock)) (by (with_reducible repeat (first | apply Kd.V_alloc | apply Kd.V_drewN | apply Kd.V_drew)); exact Kd.V_mono HO289.out (fun _ hk => ⟨⟨hk.1, ⟨hk.2.1, hk.2.2.1⟩⟩, hk.2.2.2⟩)) hg hat)
                      have n6_ := Aside0.mk (Kd.V_afterv (ok := (fun k_ => ((P0_ k_ ∨ P1_ k_ ∨ P2_ k_) ∨ w.heap.size ≤ k_) ∧ some k_ ≠ (v237 : Value).ownBlock ∧ some k_ ≠ (v240 : Value).ownBlock)) (by (with_reducible repeat (first | apply Kd.V_alloc | apply Kd.V_drewN | apply Kd.V_drew)); exact Kd.V_mono HO294.out (fun _ hk => ⟨⟨hk.1, ⟨hk.2.1, hk.2.2.1⟩⟩, hk.2.2.2⟩)) hg hat)
                      have n7_ := Aside0.mk (Kd.V_afterv (ok := (fun k_ => ((P0_ k_ ∨ P1_ k_ ∨ P2_ k_) ∨ w.heap.size ≤ k_) ∧ some k_ ≠ (v237 : Value).ownBlock ∧ some k_ ≠ (v240 : Value).ownBlock)) (by (with_reducible repeat (first | apply Kd.V_alloc | apply Kd.V_drewN | apply Kd.V_drew)); exact Kd.V_mono HO299.out (fun _ hk => ⟨⟨hk.1, ⟨hk.2.1, hk.2.2.1⟩⟩, hk.2.2.2⟩)) hg hat)
                      have n8_ := Aside0.mk (Kd.V_afterv (ok := (fun k_ => ((P0_ k_ ∨ P1_ k_ ∨ P2_ k_) ∨ w.heap.size ≤ k_) ∧ some k_ ≠ (v237 : Value).ownBlock ∧ some k_ ≠ (v240 : Value).ownBlock)) (by (with_reducible repeat (first | apply Kd.V_alloc | apply Kd.V_drewN | apply Kd.V_drew)); exact Kd.V_mono HO305.out (fun _ hk => ⟨⟨hk.1, ⟨hk.2.1, hk.2.2.1⟩⟩, hk.2.2.2⟩)) hg hat)
                      have n9_ := Aside0.mk (Kd.V_afterv (ok := (fun k_ => ((P0_ k_ ∨ P1_ k_ ∨ P2_ k_) ∨ w.heap.size ≤ k_) ∧ some k_ ≠ (v237 : Value).ownBlock ∧ some k_ ≠ (v240 : Value).ownBlock)) (by (with_reducible repeat (first | apply Kd.V_alloc | apply Kd.V_drewN | apply Kd.V_drew)); exact Kd.V_mono HO310.out (fun _ hk => ⟨⟨hk.1, ⟨hk.2.1, hk.2.2.1⟩⟩, hk.2.2.2⟩)) hg hat)
                      have n10_ := Aside0.mk (Kd.V_afterv (ok := (fun k_ => ((P0_ k_ ∨ P1_ k_ ∨ P2_ k_) ∨ w.heap.size ≤ k_) ∧ some k_ ≠ (v237 : Value).ownBlock ∧ some k_ ≠ (v240 : Value).ownBlock)) (by (with_reducible repeat (first | apply Kd.V_alloc | apply Kd.V_drewN | apply Kd.V_drew)); exact Kd.V_mono HO315.out (fun _ hk => ⟨⟨hk.1, ⟨hk.2.1, hk.2.2.1⟩⟩, hk.2.2.2⟩)) hg hat)
                      have n11_ := Aside0.mk (hb)
                      have n12_ := Aside0.mk (ho)
                      clear HO_0
                      clear HO_1
                      clear HO_2
                      clear HO_7
                      clear HO_8
                      clear HO289
                      clear HO294
                      clear HO299
                      clear HO305
                      clear HO310
                      clear HO315
                      clear HB
                      clear HO_9
                      have HO_0 := n0_
                      have HO_1 := n1_
                      have HO_2 := n2_
                      have HO_7 := n3_
                      have HO_8 := n4_
                      have HO289 := n5_
                      have HO294 := n6_
                      have HO299 := n7_
                      have HO305 := n8_
                      have HO310 := n9_
                      have HO315 := n10_
                      have HB := n11_
                      have HO318 := n12_
                      clear n0_ n1_ n2_ n3_ n4_ n5_ n6_ n7_ n8_ n9_ n10_ n11_ n12_
                      clear ho hb hg hat
                      refine hK.out _ _ trivial (fun hHeld => ?_)
                      clear hK K
                      refine norm_ (a' := ?_) ?_ ?_
                      rotate_left
                      · show Act.put _ (some 143) _ = _
                        simp only [Act.put, List.setIfInBounds_toArray, List.set_cons_zero, List.set_cons_succ, i64_w, i32_w]
                        rfl
                      refine pure_ (i := 17) (N := some 9) (v := ?_) (a' := ?_) #[true, true, true, true, true, true, true, true, true, true, true, true, true, true, true, true, true, true] rfl rfl (any_of HT_.out (by kernel_rfl)) (fun _ _ _ h => h) (Or.inl ⟨by rfl, ?_⟩) ?_ ?_
                      rotate_left
                      · intro w'
                        go_simp
                        with_reducible rfl
                      rotate_left
                      · simp only [Act.put, List.setIfInBounds_toArray, List.set_cons_zero, List.set_cons_succ, i64_w, i32_w]
                        rfl
                      refine done_ (done_of HT_.out (by kernel_rfl)) ?_
                      try go_wp2
                      go_roundg kj25
                      case measure => have := HK1.out; have := HJ9.out; have := HJ13.out; have := HJ25.out; omega
                      case rel => exact ⟨(y316), (x14_25), ((l1.length : Int)), ((l2.length : Int)), (by first | rfl | (simp; done) | (simp [*]; done)), (by first | rfl | (simp; done) | (simp [*]; done)), (by first | rfl | (simp; done) | (simp [*]; done)), H', ⟨by have := HK1.out; have := HJ9.out; have := HJ13.out; have := HJ25.out; omega⟩, ⟨by (with_reducible repeat (first | apply Kd.V_alloc | apply Kd.V_drewN | apply Kd.V_drew)); exact Kd.V_mono HO_0.out (fun _ hk => ⟨hk.1.1, ⟨hk.1.2.1, ⟨hk.1.2.2, hk.2⟩⟩⟩)⟩, ⟨by (with_reducible repeat (first | apply Kd.V_alloc | apply Kd.V_drewN | apply Kd.V_drew)); exact Kd.V_mono HO_1.out (fun _ hk => ⟨hk.1.1, ⟨hk.1.2.1, ⟨hk.1.2.2, hk.2⟩⟩⟩)⟩, ⟨by (with_reducible repeat (first | apply Kd.V_alloc | apply Kd.V_drewN | apply Kd.V_drew)); exact Kd.V_mono HO_2.out (fun _ hk => ⟨hk.1.1, ⟨hk.1.2.1, ⟨hk.1.2.2, hk.2⟩⟩⟩)⟩, ⟨by (with_reducible repeat (first | apply Kd.R_alloc | apply Kd.R_drewN | apply Kd.R_drew)); exact HO_7.out⟩, ⟨by (with_reducible repeat (first | apply Kd.R_alloc | apply Kd.R_drewN | apply Kd.R_drew)); exact HO_8.out⟩, ⟨by (with_reducible repeat (first | apply Kd.N_alloc | apply Kd.N_drewN | apply Kd.N_drew)); exact HO318.out⟩, ⟨by repeat (first | (with_reducible first | exact HB.out | apply below_alloc | apply pw_below_drewN | apply below_drew1) | exact HB.out)⟩⟩
                     · rw [if_neg c90] at H
                       exact absurd H (by simp)
                    · rw [if_neg c79] at H
                      exact absurd H (by simp)
                   · rw [if_neg c78] at H
                     exact absurd H (by simp)
                  · rw [if_neg c77] at H
                    exact absurd H (by simp)
                 · rw [if_neg c76] at H
                   exact absurd H (by simp)
                · rw [if_neg c75] at H
                  exact absurd H (by simp)
               · rw [if_neg c74] at H
                 exact absurd H (by simp)
              · rw [if_neg c73] at H
                exact absurd H (by simp)
             · rw [if_neg c72] at H
               exact absurd H (by simp)
            · rw [if_neg c71] at H
              exact absurd H (by simp)
        ·
         rw [if_neg c25] at H
         have c25b0 : (x13_13 == 0) = false := beq_eq_false_iff_ne.mpr c25
         have c25b1 : (x13_13 != 0) = true := bne_iff_ne.mpr c25
         by_cases c100 : 0 ≤ x10_1
         ·
          rw [if_pos c100] at H
          have c100b0 := eq_true c100
          have c100b1 : decide (0 ≤ x10_1) = true := decide_eq_true c100
          clear c100
          by_cases c101 : x10_1 ≤ (wrap64 (x10_1 + x13_13))
          ·
           rw [if_pos c101] at H
           have c101b0 := eq_true c101
           have c101b1 : decide (x10_1 ≤ (wrap64 (x10_1 + x13_13))) = true := decide_eq_true c101
           by_cases c102 : (wrap64 (x10_1 + x13_13)) ≤ (l0.length : Int)
           ·
            rw [if_pos c102] at H
            have c102b0 := eq_true c102
            have c102b1 : decide ((wrap64 (x10_1 + x13_13)) ≤ (l0.length : Int)) = true := decide_eq_true c102
            obtain ⟨y319, hy319⟩ : ∃ y_ : List ByteArray, y_ = ((l0.take ((wrap64 (x10_1 + x13_13)) : Int).toNat).drop (x10_1 : Int).toNat) := ⟨_, rfl⟩
            have Qy319 := Aside0.mk hy319
            replace H : (if 0 ≤ x11_1 then (if x11_1 ≤ (wrap64 (x11_1 + x13_13)) then (if (wrap64 (x11_1 + x13_13)) ≤ (l1.length : Int) then (if 0 ≤ x12_1 then (if x12_1 ≤ (wrap64 (x12_1 + x13_13)) then (if (wrap64 (x12_1 + x13_13)) ≤ (l2.length : Int) then (if x9_1.length < 1759218604441 then (pollardref19_Chunks.l0 kj13 l0 l1 l2 t236 t239 (x9_1 ++ [(⟨1, y319, ((l1.take ((wrap64 (x11_1 + x13_13)) : Int).toNat).drop (x11_1 : Int).toNat), ((l2.take ((wrap64 (x12_1 + x13_13)) : Int).toNat).drop (x12_1 : Int).toNat)⟩ : S33)]) (wrap64 (x10_1 + x13_13)) (wrap64 (x11_1 + x13_13)) (wrap64 (x12_1 + x13_13))) else (none)) else (none)) else (none)) else (none)) else (none)) else (none)) else (none)) = some r := by first | (rw [hy319]; with_reducible exact H) | (have H2_ := (Option.bind_some _ _).symm.trans H; rw [hy319]; with_reducible exact H2_) | (have H2_ := (Option.bind_some _ _).symm.trans H; with_reducible exact H2_) | with_reducible exact H | (rw [hy319]; exact H) | exact H
            have Ny319 := Aside0.mk hy319
            clear hy319
            by_cases c103 : 0 ≤ x11_1
            ·
             rw [if_pos c103] at H
             have c103b0 := eq_true c103
             have c103b1 : decide (0 ≤ x11_1) = true := decide_eq_true c103
             clear c103
             by_cases c104 : x11_1 ≤ (wrap64 (x11_1 + x13_13))
             ·
              rw [if_pos c104] at H
              have c104b0 := eq_true c104
              have c104b1 : decide (x11_1 ≤ (wrap64 (x11_1 + x13_13))) = true := decide_eq_true c104
              by_cases c105 : (wrap64 (x11_1 + x13_13)) ≤ (l1.length : Int)
              ·
               rw [if_pos c105] at H
               have c105b0 := eq_true c105
               have c105b1 : decide ((wrap64 (x11_1 + x13_13)) ≤ (l1.length : Int)) = true := decide_eq_true c105
               obtain ⟨y324, hy324⟩ : ∃ y_ : List ByteArray, y_ = ((l1.take ((wrap64 (x11_1 + x13_13)) : Int).toNat).drop (x11_1 : Int).toNat) := ⟨_, rfl⟩
               have Qy324 := Aside0.mk hy324
               replace H : (if 0 ≤ x12_1 then (if x12_1 ≤ (wrap64 (x12_1 + x13_13)) then (if (wrap64 (x12_1 + x13_13)) ≤ (l2.length : Int) then (if x9_1.length < 1759218604441 then (pollardref19_Chunks.l0 kj13 l0 l1 l2 t236 t239 (x9_1 ++ [(⟨1, y319, y324, ((l2.take ((wrap64 (x12_1 + x13_13)) : Int).toNat).drop (x12_1 : Int).toNat)⟩ : S33)]) (wrap64 (x10_1 + x13_13)) (wrap64 (x11_1 + x13_13)) (wrap64 (x12_1 + x13_13))) else (none)) else (none)) else (none)) else (none)) = some r := by first | (rw [hy324]; with_reducible exact H) | (have H2_ := (Option.bind_some _ _).symm.trans H; rw [hy324]; with_reducible exact H2_) | (have H2_ := (Option.bind_some _ _).symm.trans H; with_reducible exact H2_) | with_reducible exact H | (rw [hy324]; exact H) | exact H
               have Ny324 := Aside0.mk hy324
               clear hy324
               by_cases c106 : 0 ≤ x12_1
               ·
                rw [if_pos c106] at H
                have c106b0 := eq_true c106
                have c106b1 : decide (0 ≤ x12_1) = true := decide_eq_true c106
                clear c106
                by_cases c107 : x12_1 ≤ (wrap64 (x12_1 + x13_13))
                ·
                 rw [if_pos c107] at H
                 have c107b0 := eq_true c107
                 have c107b1 : decide (x12_1 ≤ (wrap64 (x12_1 + x13_13))) = true := decide_eq_true c107
                 by_cases c108 : (wrap64 (x12_1 + x13_13)) ≤ (l2.length : Int)
                 ·
                  rw [if_pos c108] at H
                  have c108b0 := eq_true c108
                  have c108b1 : decide ((wrap64 (x12_1 + x13_13)) ≤ (l2.length : Int)) = true := decide_eq_true c108
                  obtain ⟨y329, hy329⟩ : ∃ y_ : List ByteArray, y_ = ((l2.take ((wrap64 (x12_1 + x13_13)) : Int).toNat).drop (x12_1 : Int).toNat) := ⟨_, rfl⟩
                  have Qy329 := Aside0.mk hy329
                  replace H : (if x9_1.length < 1759218604441 then (pollardref19_Chunks.l0 kj13 l0 l1 l2 t236 t239 (x9_1 ++ [(⟨1, y319, y324, y329⟩ : S33)]) (wrap64 (x10_1 + x13_13)) (wrap64 (x11_1 + x13_13)) (wrap64 (x12_1 + x13_13))) else (none)) = some r := by first | (rw [hy329]; with_reducible exact H) | (have H2_ := (Option.bind_some _ _).symm.trans H; rw [hy329]; with_reducible exact H2_) | (have H2_ := (Option.bind_some _ _).symm.trans H; with_reducible exact H2_) | with_reducible exact H | (rw [hy329]; exact H) | exact H
                  have Ny329 := Aside0.mk hy329
                  clear hy329
                  by_cases c109 : x9_1.length < 1759218604441
                  ·
                   rw [if_pos c109] at H
                   have LMc109 := Aside0.mk c109
                   clear c109
                   obtain ⟨y334, hy334⟩ : ∃ y_ : List (S33), y_ = (x9_1 ++ [(⟨1, y319, y324, y329⟩ : S33)]) := ⟨_, rfl⟩
                   replace H : (pollardref19_Chunks.l0 kj13 l0 l1 l2 t236 t239 y334 (wrap64 (x10_1 + x13_13)) (wrap64 (x11_1 + x13_13)) (wrap64 (x12_1 + x13_13))) = some r := by first | (rw [hy334]; with_reducible exact H) | (have H2_ := (Option.bind_some _ _).symm.trans H; rw [hy334]; with_reducible exact H2_) | (have H2_ := (Option.bind_some _ _).symm.trans H; with_reducible exact H2_) | with_reducible exact H | (rw [hy334]; exact H) | exact H
                   have Ny334 := Aside0.mk hy334
                   clear hy334
                   have H' := Aside0.mk H
                   clear H
                   try go_wp2
                   have n0_ := Aside0.mk (Kd.V_drew HO_0.out)
                   have n1_ := Aside0.mk (Kd.V_drew HO_1.out)
                   have n2_ := Aside0.mk (Kd.V_drew HO_2.out)
                   have n3_ := Aside0.mk (Kd.R_drew HO_7.out)
                   have n4_ := Aside0.mk (Kd.R_drew HO_8.out)
                   have n5_ := Aside0.mk (Kd.N_drew HO_9.out)
                   have n6_ := Aside0.mk (below_drew1 HB.out)
                   clear HO_0
                   clear HO_1
                   clear HO_2
                   clear HO_7
                   clear HO_8
                   clear HO_9
                   clear HB
                   have HO_0 := n0_
                   have HO_1 := n1_
                   have HO_2 := n2_
                   have HO_7 := n3_
                   have HO_8 := n4_
                   have HO_9 := n5_
                   have HB := n6_
                   clear n0_ n1_ n2_ n3_ n4_ n5_ n6_
                   have q111 : ((wrap64 (x10_1 + x13_13)) : Int) ≤ ((l0.length : Int) : Int) := of_decide_eq_true (by first | (with_reducible assumption) | assumption)
                   obtain ⟨i0111, hi0111, _, hsz111, _⟩ := info_parts info9
                   have hroom111 : l0.length ≤ c0 := (Kd.V_reads' HO_0.out).2.1
                   have hC111 : Kd.F Kd.string _ _ A0 l0.length l0 := (Kd.V_at (base := w.heap.size) HO_0.out).2.2
                   have ql111 : (x10_1 : Int) ≤ ((wrap64 (x10_1 + x13_13)) : Int) := of_decide_eq_true (by first | (with_reducible assumption) | assumption)
                   have q0111 : (0 : Int) ≤ (x10_1 : Int) := of_decide_eq_true (by first | (with_reducible assumption) | assumption)
                   have hcut111 := cut_mid (P := Tryd.prog) 22 9 .i64 .i64 Tryd.underlying22 hi0111 1 hsz111 A0 l0.length c0 x10_1 (wrap64 (x10_1 + x13_13)) q0111 ql111 q111 hroom111
                   have hr111 := Kd.F_mid (lo := (x10_1 : Int).toNat) (hi := ((wrap64 (x10_1 + x13_13)) : Int).toNat) (c := c0) hC111 (by omega) (by omega) hroom111
                   obtain ⟨A111, hA111⟩ : ∃ Az_, Az_ = (if c0 = (x10_1 : Int).toNat then A0 else (A0 : Option Addr).map (·.add ((x10_1 : Int).toNat * 1))) := ⟨_, rfl⟩
                   have QA111 := Aside0.mk hA111
                   obtain ⟨c111, hc111⟩ : ∃ cz_, cz_ = c0 - (x10_1 : Int).toNat := ⟨_, rfl⟩
                   have QC111 := Aside0.mk hc111
                   have hy111 : y319.length = ((wrap64 (x10_1 + x13_13)) : Int).toNat - (x10_1 : Int).toNat := (by rw [Ny319.out, List.length_drop, List.length_take] <;> omega)
                   rw [show ((l0).take ((wrap64 (x10_1 + x13_13)) : Int).toNat).drop (x10_1 : Int).toNat = y319 from Ny319.out.symm] at hr111
                   replace hr111 : Kd.F Kd.string _ _ A111 y319.length y319 := (by rw [hA111]; exact hr111)
                   rw [← hy111, ← hA111, ← hc111] at hcut111
                   have HO323 := Aside0.mk (show Kd.V Kd.string 9 _ w.heap.size _ (.slice A111 y319.length c111) y319 from Kd.V_mk (by rw [hy111, hc111]; exact Nat.sub_le_sub_right (Nat.le_trans (by omega) hroom111) _) hr111)
                   have HC323 := Aside0.mk (show y319.length ≤ c111 from by rw [hy111, hc111]; exact Nat.sub_le_sub_right (Nat.le_trans (by omega) hroom111) _)
                   clear hr111 hC111 hroom111 hi0111 hsz111 hc111
                   have KY111 := Aside0.mk hy111
                   have KA111 := Aside0.mk hA111
                   clear hy111 hA111
                   replace q111 := eq_true q111
                   have q112 : ((wrap64 (x11_1 + x13_13)) : Int) ≤ ((l1.length : Int) : Int) := of_decide_eq_true (by first | (with_reducible assumption) | assumption)
                   obtain ⟨i0112, hi0112, _, hsz112, _⟩ := info_parts info9
                   have hroom112 : l1.length ≤ c1 := (Kd.V_reads' HO_1.out).2.1
                   have hC112 : Kd.F Kd.string _ _ A1 l1.length l1 := (Kd.V_at (base := w.heap.size) HO_1.out).2.2
                   have ql112 : (x11_1 : Int) ≤ ((wrap64 (x11_1 + x13_13)) : Int) := of_decide_eq_true (by first | (with_reducible assumption) | assumption)
                   have q0112 : (0 : Int) ≤ (x11_1 : Int) := of_decide_eq_true (by first | (with_reducible assumption) | assumption)
                   have hcut112 := cut_mid (P := Tryd.prog) 22 9 .i64 .i64 Tryd.underlying22 hi0112 1 hsz112 A1 l1.length c1 x11_1 (wrap64 (x11_1 + x13_13)) q0112 ql112 q112 hroom112
                   have hr112 := Kd.F_mid (lo := (x11_1 : Int).toNat) (hi := ((wrap64 (x11_1 + x13_13)) : Int).toNat) (c := c1) hC112 (by omega) (by omega) hroom112
                   obtain ⟨A112, hA112⟩ : ∃ Az_, Az_ = (if c1 = (x11_1 : Int).toNat then A1 else (A1 : Option Addr).map (·.add ((x11_1 : Int).toNat * 1))) := ⟨_, rfl⟩
                   have QA112 := Aside0.mk hA112
                   obtain ⟨c112, hc112⟩ : ∃ cz_, cz_ = c1 - (x11_1 : Int).toNat := ⟨_, rfl⟩
                   have QC112 := Aside0.mk hc112
                   have hy112 : y324.length = ((wrap64 (x11_1 + x13_13)) : Int).toNat - (x11_1 : Int).toNat := (by rw [Ny324.out, List.length_drop, List.length_take] <;> omega)
                   rw [show ((l1).take ((wrap64 (x11_1 + x13_13)) : Int).toNat).drop (x11_1 : Int).toNat = y324 from Ny324.out.symm] at hr112
                   replace hr112 : Kd.F Kd.string _ _ A112 y324.length y324 := (by rw [hA112]; exact hr112)
                   rw [← hy112, ← hA112, ← hc112] at hcut112
                   have HO328 := Aside0.mk (show Kd.V Kd.string 9 _ w.heap.size _ (.slice A112 y324.length c112) y324 from Kd.V_mk (by rw [hy112, hc112]; exact Nat.sub_le_sub_right (Nat.le_trans (by omega) hroom112) _) hr112)
                   have HC328 := Aside0.mk (show y324.length ≤ c112 from by rw [hy112, hc112]; exact Nat.sub_le_sub_right (Nat.le_trans (by omega) hroom112) _)
                   clear hr112 hC112 hroom112 hi0112 hsz112 hc112
                   have KY112 := Aside0.mk hy112
                   have KA112 := Aside0.mk hA112
                   clear hy112 hA112
                   replace q112 := eq_true q112
                   have q113 : ((wrap64 (x12_1 + x13_13)) : Int) ≤ ((l2.length : Int) : Int) := of_decide_eq_true (by first | (with_reducible assumption) | assumption)
                   obtain ⟨i0113, hi0113, _, hsz113, _⟩ := info_parts info9
                   have hroom113 : l2.length ≤ c2 := (Kd.V_reads' HO_2.out).2.1
                   have hC113 : Kd.F Kd.string _ _ A2 l2.length l2 := (Kd.V_at (base := w.heap.size) HO_2.out).2.2
                   have ql113 : (x12_1 : Int) ≤ ((wrap64 (x12_1 + x13_13)) : Int) := of_decide_eq_true (by first | (with_reducible assumption) | assumption)
                   have q0113 : (0 : Int) ≤ (x12_1 : Int) := of_decide_eq_true (by first | (with_reducible assumption) | assumption)
                   have hcut113 := cut_mid (P := Tryd.prog) 22 9 .i64 .i64 Tryd.underlying22 hi0113 1 hsz113 A2 l2.length c2 x12_1 (wrap64 (x12_1 + x13_13)) q0113 ql113 q113 hroom113
                   have hr113 := Kd.F_mid (lo := (x12_1 : Int).toNat) (hi := ((wrap64 (x12_1 + x13_13)) : Int).toNat) (c := c2) hC113 (by omega) (by omega) hroom113
                   obtain ⟨A113, hA113⟩ : ∃ Az_, Az_ = (if c2 = (x12_1 : Int).toNat then A2 else (A2 : Option Addr).map (·.add ((x12_1 : Int).toNat * 1))) := ⟨_, rfl⟩
                   have QA113 := Aside0.mk hA113
                   obtain ⟨c113, hc113⟩ : ∃ cz_, cz_ = c2 - (x12_1 : Int).toNat := ⟨_, rfl⟩
                   have QC113 := Aside0.mk hc113
                   have hy113 : y329.length = ((wrap64 (x12_1 + x13_13)) : Int).toNat - (x12_1 : Int).toNat := (by rw [Ny329.out, List.length_drop, List.length_take] <;> omega)
                   rw [show ((l2).take ((wrap64 (x12_1 + x13_13)) : Int).toNat).drop (x12_1 : Int).toNat = y329 from Ny329.out.symm] at hr113
                   replace hr113 : Kd.F Kd.string _ _ A113 y329.length y329 := (by rw [hA113]; exact hr113)
                   rw [← hy113, ← hA113, ← hc113] at hcut113
                   have HO333 := Aside0.mk (show Kd.V Kd.string 9 _ w.heap.size _ (.slice A113 y329.length c113) y329 from Kd.V_mk (by rw [hy113, hc113]; exact Nat.sub_le_sub_right (Nat.le_trans (by omega) hroom113) _) hr113)
                   have HC333 := Aside0.mk (show y329.length ≤ c113 from by rw [hy113, hc113]; exact Nat.sub_le_sub_right (Nat.le_trans (by omega) hroom113) _)
                   clear hr113 hC113 hroom113 hi0113 hsz113 hc113
                   have KY113 := Aside0.mk hy113
                   have KA113 := Aside0.mk hA113
                   clear hy113 hA113
                   replace q113 := eq_true q113
                   refine start_ (n := 18) (S := fun w' => True) (ds := []) #[false, false, false, false, false, false, false, false, false, false, false, false, false, false, false, false, false, false] (by kernel_rfl) rfl rfl trivial (fun hHeld => ?_); refine with_tabW pollardref19_Chunks.tab15 pollardref19_Chunks.bits15 (fun HT_ HW_ => ?_)
                   generalize wc.drew = w110 at HO_0 HO_1 HO_2 HO_7 HO_8 HO_9 HB HO323 HO328 HO333 hHeld ⊢
                   refine pure_ (i := 0) (N := some 127) (v := ?_) (a' := ?_) #[true, false, false, false, false, false, false, false, false, false, false, false, false, false, false, false, false, false] rfl rfl (any_of HT_.out (by kernel_rfl)) (fun _ _ _ h => h) (Or.inl ⟨by rfl, ?_⟩) ?_ ?_
                   rotate_left
                   · intro w'
                     go_simp
                     with_reducible rfl
                   rotate_left
                   · simp only [Act.put, List.setIfInBounds_toArray, List.set_cons_zero, List.set_cons_succ, i64_w, i32_w]
                     rfl
                   refine pure_ (i := 1) (N := some 128) (v := ?_) (a' := ?_) #[true, true, false, false, false, false, false, false, false, false, false, false, false, false, false, false, false, false] rfl rfl (any_of HT_.out (by kernel_rfl)) (fun _ _ _ h => h) (Or.inl ⟨by rfl, ?_⟩) ?_ ?_
                   rotate_left
                   · intro w'
                     go_simp
                     with_reducible rfl
                   rotate_left
                   · simp only [Act.put, List.setIfInBounds_toArray, List.set_cons_zero, List.set_cons_succ, i64_w, i32_w]
                     rfl
                   refine pure_ (i := 2) (N := some 129) (v := ?_) (a' := ?_) #[true, true, true, false, false, false, false, false, false, false, false, false, false, false, false, false, false, false] rfl rfl (any_of HT_.out (by kernel_rfl)) (fun _ _ _ h => h) (Or.inl ⟨by rfl, ?_⟩) ?_ ?_
                   rotate_left
                   · intro w'
                     go_simp
                     with_reducible rfl
                   rotate_left
                   · simp only [Act.put, List.setIfInBounds_toArray, List.set_cons_zero, List.set_cons_succ, i64_w, i32_w]
                     rfl
                   refine pure_ (i := 3) (N := some 130) (v := ?_) (a' := ?_) #[true, true, true, true, false, false, false, false, false, false, false, false, false, false, false, false, false, false] rfl rfl (any_of HT_.out (by kernel_rfl)) (fun _ _ _ h => h) (Or.inl ⟨by rfl, ?_⟩) ?_ ?_
                   rotate_left
                   · intro w'
                     go_simp
                     with_reducible rfl
                   rotate_left
                   · simp only [Act.put, List.setIfInBounds_toArray, List.set_cons_zero, List.set_cons_succ, i64_w, i32_w]
                     rfl
                   refine pure_ (i := 4) (N := some 131) (v := ?_) (a' := ?_) #[true, true, true, true, true, false, false, false, false, false, false, false, false, false, false, false, false, false] rfl rfl (any_of HT_.out (by kernel_rfl)) (fun _ _ _ h => h) (Or.inl ⟨by rfl, ?_⟩) ?_ ?_
                   rotate_left
                   · intro w'
                     go_simp
                     with_reducible rfl
                   rotate_left
                   · simp only [Act.put, List.setIfInBounds_toArray, List.set_cons_zero, List.set_cons_succ, i64_w, i32_w]
                     rfl
                   refine pure_ (i := 5) (N := some 132) (v := ?_) (a' := ?_) #[true, true, true, true, true, true, false, false, false, false, false, false, false, false, false, false, false, false] rfl rfl (any_of HT_.out (by kernel_rfl)) (fun _ _ _ h => h) (Or.inl ⟨by rfl, ?_⟩) ?_ ?_
                   rotate_left
                   · intro w'
                     go_simp
                     with_reducible rfl
                   rotate_left
                   · simp only [Act.put, List.setIfInBounds_toArray, List.set_cons_zero, List.set_cons_succ, i64_w, i32_w]
                     rfl
                   refine pure_ (i := 6) (N := some 133) (v := ?_) (a' := ?_) #[true, true, true, true, true, true, true, false, false, false, false, false, false, false, false, false, false, false] rfl rfl (any_of HT_.out (by kernel_rfl)) (fun _ _ _ h => h) (Or.inl ⟨by rfl, ?_⟩) ?_ ?_
                   rotate_left
                   · intro w'
                     go_simp
                     with_reducible rfl
                   rotate_left
                   · simp only [Act.put, List.setIfInBounds_toArray, List.set_cons_zero, List.set_cons_succ, i64_w, i32_w]
                     rfl
                   refine pure_ (i := 7) (N := some 134) (v := ?_) (a' := ?_) #[true, true, true, true, true, true, true, true, false, false, false, false, false, false, false, false, false, false] rfl rfl (any_of HT_.out (by kernel_rfl)) (fun _ _ _ h => h) (Or.inl ⟨by rfl, ?_⟩) ?_ ?_
                   rotate_left
                   · intro w'
                     go_simp
                     with_reducible rfl
                   rotate_left
                   · simp only [Act.put, List.setIfInBounds_toArray, List.set_cons_zero, List.set_cons_succ, i64_w, i32_w]
                     rfl
                   refine pure_ (i := 8) (N := some 135) (v := ?_) (a' := ?_) #[true, true, true, true, true, true, true, true, true, false, false, false, false, false, false, false, false, false] rfl rfl (any_of HT_.out (by kernel_rfl)) (fun _ _ _ h => h) (Or.inl ⟨by rfl, ?_⟩) ?_ ?_
                   rotate_left
                   · intro w'
                     go_simp
                     with_reducible rfl
                   rotate_left
                   · simp only [Act.put, List.setIfInBounds_toArray, List.set_cons_zero, List.set_cons_succ, i64_w, i32_w]
                     rfl
                   refine pure_ (i := 9) (N := some 136) (v := ?_) (a' := ?_) #[true, true, true, true, true, true, true, true, true, true, false, false, false, false, false, false, false, false] rfl rfl (any_of HT_.out (by kernel_rfl)) (fun _ _ _ h => h) (Or.inl ⟨by rfl, ?_⟩) ?_ ?_
                   rotate_left
                   · intro w'
                     go_simp
                     with_reducible rfl
                   rotate_left
                   · simp only [Act.put, List.setIfInBounds_toArray, List.set_cons_zero, List.set_cons_succ, i64_w, i32_w]
                     rfl
                   refine pure_ (i := 10) (N := some 137) (v := ?_) (a' := ?_) #[true, true, true, true, true, true, true, true, true, true, true, false, false, false, false, false, false, false] rfl rfl (any_of HT_.out (by kernel_rfl)) (fun _ _ _ h => h) (Or.inl ⟨by rfl, ?_⟩) ?_ ?_
                   rotate_left
                   · intro w'
                     go_simp
                     with_reducible rfl
                   rotate_left
                   · simp only [Act.put, List.setIfInBounds_toArray, List.set_cons_zero, List.set_cons_succ, i64_w, i32_w]
                     rfl
                   refine pure_ (i := 11) (N := some 138) (v := ?_) (a' := ?_) #[true, true, true, true, true, true, true, true, true, true, true, true, false, false, false, false, false, false] rfl rfl (any_of HT_.out (by kernel_rfl)) (fun _ _ _ h => h) (Or.inl ⟨by rfl, ?_⟩) ?_ ?_
                   rotate_left
                   · intro w'
                     go_simp
                     with_reducible rfl
                   rotate_left
                   · simp only [Act.put, List.setIfInBounds_toArray, List.set_cons_zero, List.set_cons_succ, i64_w, i32_w]
                     rfl
                   refine pure_ (i := 12) (N := some 139) (v := ?_) (a' := ?_) #[true, true, true, true, true, true, true, true, true, true, true, true, true, false, false, false, false, false] rfl rfl (any_of HT_.out (by kernel_rfl)) (fun _ _ _ h => h) (Or.inl ⟨by rfl, ?_⟩) ?_ ?_
                   rotate_left
                   · intro w'
                     go_simp
                     with_reducible rfl
                   rotate_left
                   · simp only [Act.put, List.setIfInBounds_toArray, List.set_cons_zero, List.set_cons_succ, i64_w, i32_w]
                     rfl
                   refine pure_ (i := 13) (N := some 140) (v := ?_) (a' := ?_) #[true, true, true, true, true, true, true, true, true, true, true, true, true, true, false, false, false, false] rfl rfl (any_of HT_.out (by kernel_rfl)) (fun _ _ _ h => h) (Or.inl ⟨by rfl, ?_⟩) ?_ ?_
                   rotate_left
                   · intro w'
                     go_simp
                     with_reducible rfl
                   rotate_left
                   · simp only [Act.put, List.setIfInBounds_toArray, List.set_cons_zero, List.set_cons_succ, i64_w, i32_w]
                     rfl
                   refine pure_ (i := 14) (N := some 141) (v := ?_) (a' := ?_) #[true, true, true, true, true, true, true, true, true, true, true, true, true, true, true, false, false, false] rfl rfl (any_of HT_.out (by kernel_rfl)) (fun _ _ _ h => h) (Or.inl ⟨by rfl, ?_⟩) ?_ ?_
                   rotate_left
                   · intro w'
                     go_simp
                     with_reducible rfl
                   rotate_left
                   · simp only [Act.put, List.setIfInBounds_toArray, List.set_cons_zero, List.set_cons_succ, i64_w, i32_w]
                     rfl
                   refine one_ (i := 15) (N := some 142) #[true, true, true, true, true, true, true, true, true, true, true, true, true, true, true, true, false, false] rfl rfl (one_of HT_.out (by kernel_rfl)) (by decide) (fun K hK => ?_)
                   refine value_ (w1 := ?_) (v := ?_) (by rfl) rfl ?_ ?_
                   rotate_left 2
                   · go_simp
                     constructor
                     · rfl
                     · rfl
                   refine hK.out _ _ trivial (fun hHeld => ?_)
                   clear hK K
                   refine norm_ (a' := ?_) ?_ ?_
                   rotate_left
                   · show Act.put _ (some 142) _ = _
                     simp only [Act.put, List.setIfInBounds_toArray, List.set_cons_zero, List.set_cons_succ, i64_w, i32_w]
                     rfl
                   refine one_ (i := 16) (N := some 143) #[true, true, true, true, true, true, true, true, true, true, true, true, true, true, true, true, true, false] rfl rfl (one_of HT_.out (by kernel_rfl)) (by decide) (fun K hK => ?_)
                   refine Kd.N_append_step k33 (w0 := w) w.heap.size (by rfl) (.tmp 127) (.tmp 142) 28 33 (.agg #[(.int .i64 0), (.slice none 0 0), (.slice none 0 0), (.slice none 0 0)]) 80 rfl Tryd.underlying28 info33 rfl (by decide) (by omega) u9 x9_1 (⟨1, y319, y324, y329⟩ : S33) [.int .i64 1, .slice A111 y319.length c111, .slice A112 y324.length c112, .slice A113 y329.length c113] (fun k_ => ((P0_ k_ ∨ P1_ k_ ∨ P2_ k_) ∨ w.heap.size ≤ k_) ∧ some k_ ≠ (v237 : Value).ownBlock ∧ some k_ ≠ (v240 : Value).ownBlock) (fun k_ => ((fun k_ => ((P0_ k_ ∨ P1_ k_ ∨ P2_ k_) ∨ w.heap.size ≤ k_) ∧ some k_ ≠ (v237 : Value).ownBlock ∧ some k_ ≠ (v240 : Value).ownBlock)) k_ ∧ some k_ ≠ (u9 : Value).ownBlock) rfl rfl ?aP (fun _ hk => hk) ?aF ?aO ?aB ?aS ?aL ?_
                   (case aP => exact (k33_mkF _ _ (⟨1, y319, y324, y329⟩ : S33) (Kd.V_reads' (Kd.V_mono (ok' := (fun k_ => ((fun k_ => ((P0_ k_ ∨ P1_ k_ ∨ P2_ k_) ∨ w.heap.size ≤ k_) ∧ some k_ ≠ (v237 : Value).ownBlock ∧ some k_ ≠ (v240 : Value).ownBlock)) k_ ∧ some k_ ≠ (u9 : Value).ownBlock)) (HO323.out) (fun k_ hk => ⟨⟨hk.1, ⟨hk.2.1, hk.2.2.1⟩⟩, hk.2.2.2⟩))).2.1 (Kd.V_F (Kd.V_mono (ok' := (fun k_ => ((fun k_ => ((P0_ k_ ∨ P1_ k_ ∨ P2_ k_) ∨ w.heap.size ≤ k_) ∧ some k_ ≠ (v237 : Value).ownBlock ∧ some k_ ≠ (v240 : Value).ownBlock)) k_ ∧ some k_ ≠ (u9 : Value).ownBlock)) (HO323.out) (fun k_ hk => ⟨⟨hk.1, ⟨hk.2.1, hk.2.2.1⟩⟩, hk.2.2.2⟩))) (Kd.V_reads' (Kd.V_mono (ok' := (fun k_ => ((fun k_ => ((P0_ k_ ∨ P1_ k_ ∨ P2_ k_) ∨ w.heap.size ≤ k_) ∧ some k_ ≠ (v237 : Value).ownBlock ∧ some k_ ≠ (v240 : Value).ownBlock)) k_ ∧ some k_ ≠ (u9 : Value).ownBlock)) (HO328.out) (fun k_ hk => ⟨⟨hk.1, ⟨hk.2.1, hk.2.2.1⟩⟩, hk.2.2.2⟩))).2.1 (Kd.V_F (Kd.V_mono (ok' := (fun k_ => ((fun k_ => ((P0_ k_ ∨ P1_ k_ ∨ P2_ k_) ∨ w.heap.size ≤ k_) ∧ some k_ ≠ (v237 : Value).ownBlock ∧ some k_ ≠ (v240 : Value).ownBlock)) k_ ∧ some k_ ≠ (u9 : Value).ownBlock)) (HO328.out) (fun k_ hk => ⟨⟨hk.1, ⟨hk.2.1, hk.2.2.1⟩⟩, hk.2.2.2⟩))) (Kd.V_reads' (Kd.V_mono (ok' := (fun k_ => ((fun k_ => ((P0_ k_ ∨ P1_ k_ ∨ P2_ k_) ∨ w.heap.size ≤ k_) ∧ some k_ ≠ (v237 : Value).ownBlock ∧ some k_ ≠ (v240 : Value).ownBlock)) k_ ∧ some k_ ≠ (u9 : Value).ownBlock)) (HO333.out) (fun k_ hk => ⟨⟨hk.1, ⟨hk.2.1, hk.2.2.1⟩⟩, hk.2.2.2⟩))).2.1 (Kd.V_F (Kd.V_mono (ok' := (fun k_ => ((fun k_ => ((P0_ k_ ∨ P1_ k_ ∨ P2_ k_) ∨ w.heap.size ≤ k_) ∧ some k_ ≠ (v237 : Value).ownBlock ∧ some k_ ≠ (v240 : Value).ownBlock)) k_ ∧ some k_ ≠ (u9 : Value).ownBlock)) (HO333.out) (fun k_ hk => ⟨⟨hk.1, ⟨hk.2.1, hk.2.2.1⟩⟩, hk.2.2.2⟩)))))
                   (case aB => exact (by repeat (first | (with_reducible first | exact HB.out | apply below_alloc | apply pw_below_drewN | apply below_drew1) | exact HB.out)))
                   (case aF => exact (fun k_ hk => ⟨(.inr (Nat.le_trans (below_size (by repeat (first | (with_reducible first | exact HB.out | apply below_alloc | apply pw_below_drewN | apply below_drew1) | exact HB.out))) hk)), Kd.fresh' (Kd.R_lt (by (with_reducible repeat (first | apply Kd.R_alloc | apply Kd.R_drewN | apply Kd.R_drew)); exact HO_7.out)) k_ hk, Kd.fresh' (Kd.R_lt (by (with_reducible repeat (first | apply Kd.R_alloc | apply Kd.R_drewN | apply Kd.R_drew)); exact HO_8.out)) k_ hk⟩))
                   (case aO => exact (by (with_reducible repeat (first | apply Kd.N_alloc | apply Kd.N_drewN | apply Kd.N_drew)); exact HO_9.out))
                   (case aS => exact (below_size (by repeat (first | (with_reducible first | exact HB.out | apply below_alloc | apply pw_below_drewN | apply below_drew1) | exact HB.out))))
                   (case aL => have := LMc109.out; omega)
                   intro v335 w114 ho hb hg hat
                   rw [← Ny334.out] at ho
                   have n0_ := Aside0.mk (Kd.V_afterv (ok := (fun k_ => ((P0_ k_ ∨ P1_ k_ ∨ P2_ k_) ∨ w.heap.size ≤ k_) ∧ some k_ ≠ (v237 : Value).ownBlock ∧ some k_ ≠ (v240 : Value).ownBlock)) (by (with_reducible repeat (first | apply Kd.V_alloc | apply Kd.V_drewN | apply Kd.V_drew)); exact Kd.V_mono HO_0.out (fun _ hk => ⟨⟨hk.1, ⟨hk.2.1, hk.2.2.1⟩⟩, hk.2.2.2⟩)) hg hat)
                   have n1_ := Aside0.mk (Kd.V_afterv (ok := (fun k_ => ((P0_ k_ ∨ P1_ k_ ∨ P2_ k_) ∨ w.heap.size ≤ k_) ∧ some k_ ≠ (v237 : Value).ownBlock ∧ some k_ ≠ (v240 : Value).ownBlock)) (by (with_reducible repeat (first | apply Kd.V_alloc | apply Kd.V_drewN | apply Kd.V_drew)); exact Kd.V_mono HO_1.out (fun _ hk => ⟨⟨hk.1, ⟨hk.2.1, hk.2.2.1⟩⟩, hk.2.2.2⟩)) hg hat)
                   have n2_ := Aside0.mk (Kd.V_afterv (ok := (fun k_ => ((P0_ k_ ∨ P1_ k_ ∨ P2_ k_) ∨ w.heap.size ≤ k_) ∧ some k_ ≠ (v237 : Value).ownBlock ∧ some k_ ≠ (v240 : Value).ownBlock)) (by (with_reducible repeat (first | apply Kd.V_alloc | apply Kd.V_drewN | apply Kd.V_drew)); exact Kd.V_mono HO_2.out (fun _ hk => ⟨⟨hk.1, ⟨hk.2.1, hk.2.2.1⟩⟩, hk.2.2.2⟩)) hg hat)
                   have n3_ := Aside0.mk (Kd.R_over' (by (with_reducible repeat (first | apply Kd.R_alloc | apply Kd.R_drewN | apply Kd.R_drew)); exact HO_7.out) (Kd.N_typed (by (with_reducible repeat (first | apply Kd.N_alloc | apply Kd.N_drewN | apply Kd.N_drew)); exact HO_9.out)) (by decide) hg)
                   have n4_ := Aside0.mk (Kd.R_over' (by (with_reducible repeat (first | apply Kd.R_alloc | apply Kd.R_drewN | apply Kd.R_drew)); exact HO_8.out) (Kd.N_typed (by (with_reducible repeat (first | apply Kd.N_alloc | apply Kd.N_drewN | apply Kd.N_drew)); exact HO_9.out)) (by decide) hg)
                   have n5_ := Aside0.mk (Kd.V_afterv (ok := (fun k_ => ((P0_ k_ ∨ P1_ k_ ∨ P2_ k_) ∨ w.heap.size ≤ k_) ∧ some k_ ≠ (v237 : Value).ownBlock ∧ some k_ ≠ (v240 : Value).ownBlock)) (by (with_reducible repeat (first | apply Kd.V_alloc | apply Kd.V_drewN | apply Kd.V_drew)); exact Kd.V_mono HO323.out (fun _ hk => ⟨⟨hk.1, ⟨hk.2.1, hk.2.2.1⟩⟩, hk.2.2.2⟩)) hg hat)
                   have n6_ := Aside0.mk (Kd.V_afterv (ok := (fun k_ => ((P0_ k_ ∨ P1_ k_ ∨ P2_ k_) ∨ w.heap.size ≤ k_) ∧ some k_ ≠ (v237 : Value).ownBlock ∧ some k_ ≠ (v240 : Value).ownBlock)) (by (with_reducible repeat (first | apply Kd.V_alloc | apply Kd.V_drewN | apply Kd.V_drew)); exact Kd.V_mono HO328.out (fun _ hk => ⟨⟨hk.1, ⟨hk.2.1, hk.2.2.1⟩⟩, hk.2.2.2⟩)) hg hat)
                   have n7_ := Aside0.mk (Kd.V_afterv (ok := (fun k_ => ((P0_ k_ ∨ P1_ k_ ∨ P2_ k_) ∨ w.heap.size ≤ k_) ∧ some k_ ≠ (v237 : Value).ownBlock ∧ some k_ ≠ (v240 : Value).ownBlock)) (by (with_reducible repeat (first | apply Kd.V_alloc | apply Kd.V_drewN | apply Kd.V_drew)); exact Kd.V_mono HO333.out (fun _ hk => ⟨⟨hk.1, ⟨hk.2.1, hk.2.2.1⟩⟩, hk.2.2.2⟩)) hg hat)
                   have n8_ := Aside0.mk (hb)
                   have n9_ := Aside0.mk (ho)
                   clear HO_0
                   clear HO_1
                   clear HO_2
                   clear HO_7
                   clear HO_8
                   clear HO323
                   clear HO328
                   clear HO333
                   clear HB
                   clear HO_9
                   have HO_0 := n0_
                   have HO_1 := n1_
                   have HO_2 := n2_
                   have HO_7 := n3_
                   have HO_8 := n4_
                   have HO323 := n5_
                   have HO328 := n6_
                   have HO333 := n7_
                   have HB := n8_
                   have HO336 := n9_
                   clear n0_ n1_ n2_ n3_ n4_ n5_ n6_ n7_ n8_ n9_
                   clear ho hb hg hat
                   refine hK.out _ _ trivial (fun hHeld => ?_)
                   clear hK K
                   refine norm_ (a' := ?_) ?_ ?_
                   rotate_left
                   · show Act.put _ (some 143) _ = _
                     simp only [Act.put, List.setIfInBounds_toArray, List.set_cons_zero, List.set_cons_succ, i64_w, i32_w]
                     rfl
                   refine pure_ (i := 17) (N := some 9) (v := ?_) (a' := ?_) #[true, true, true, true, true, true, true, true, true, true, true, true, true, true, true, true, true, true] rfl rfl (any_of HT_.out (by kernel_rfl)) (fun _ _ _ h => h) (Or.inl ⟨by rfl, ?_⟩) ?_ ?_
                   rotate_left
                   · intro w'
                     go_simp
                     with_reducible rfl
                   rotate_left
                   · simp only [Act.put, List.setIfInBounds_toArray, List.set_cons_zero, List.set_cons_succ, i64_w, i32_w]
                     rfl
                   refine done_ (done_of HT_.out (by kernel_rfl)) ?_
                   try go_wp2
                   go_roundg kj13
                   case measure => have := HK1.out; have := HJ9.out; have := HJ13.out; omega
                   case rel => exact ⟨(y334), (wrap64 (x10_1 + x13_13)), (wrap64 (x11_1 + x13_13)), (wrap64 (x12_1 + x13_13)), (by first | rfl | (simp; done) | (simp [*]; done)), (by first | rfl | (simp; done) | (simp [*]; done)), (by first | rfl | (simp; done) | (simp [*]; done)), H', ⟨by have := HK1.out; have := HJ9.out; have := HJ13.out; omega⟩, ⟨by (with_reducible repeat (first | apply Kd.V_alloc | apply Kd.V_drewN | apply Kd.V_drew)); exact Kd.V_mono HO_0.out (fun _ hk => ⟨hk.1.1, ⟨hk.1.2.1, ⟨hk.1.2.2, hk.2⟩⟩⟩)⟩, ⟨by (with_reducible repeat (first | apply Kd.V_alloc | apply Kd.V_drewN | apply Kd.V_drew)); exact Kd.V_mono HO_1.out (fun _ hk => ⟨hk.1.1, ⟨hk.1.2.1, ⟨hk.1.2.2, hk.2⟩⟩⟩)⟩, ⟨by (with_reducible repeat (first | apply Kd.V_alloc | apply Kd.V_drewN | apply Kd.V_drew)); exact Kd.V_mono HO_2.out (fun _ hk => ⟨hk.1.1, ⟨hk.1.2.1, ⟨hk.1.2.2, hk.2⟩⟩⟩)⟩, ⟨by (with_reducible repeat (first | apply Kd.R_alloc | apply Kd.R_drewN | apply Kd.R_drew)); exact HO_7.out⟩, ⟨by (with_reducible repeat (first | apply Kd.R_alloc | apply Kd.R_drewN | apply Kd.R_drew)); exact HO_8.out⟩, ⟨by (with_reducible repeat (first | apply Kd.N_alloc | apply Kd.N_drewN | apply Kd.N_drew)); exact HO336.out⟩, ⟨by repeat (first | (with_reducible first | exact HB.out | apply below_alloc | apply pw_below_drewN | apply below_drew1) | exact HB.out)⟩⟩
                  · rw [if_neg c109] at H
                    exact absurd H (by simp)
                 · rw [if_neg c108] at H
                   exact absurd H (by simp)
                · rw [if_neg c107] at H
                  exact absurd H (by simp)
               · rw [if_neg c106] at H
                 exact absurd H (by simp)
              · rw [if_neg c105] at H
                exact absurd H (by simp)
             · rw [if_neg c104] at H
               exact absurd H (by simp)
            · rw [if_neg c103] at H
              exact absurd H (by simp)
           · rw [if_neg c102] at H
             exact absurd H (by simp)
          · rw [if_neg c101] at H
            exact absurd H (by simp)
         · rw [if_neg c100] at H
           exact absurd H (by simp)
     · replace c13 := Bool.eq_false_iff.mpr c13
       subst c13
       have H1 : (some x9_1) = some r := by rw [if_neg (show ¬ (false = true) by decide)] at H; exact H
       clear H
       have H := H1
       clear H1
       obtain rfl := Option.some.inj H
       go_wp2
       go_ret
       exact ⟨_, by first | rfl | (simp [errW_none, errW_some] <;> rfl) | (simp [*, errW_none, errW_some] <;> rfl), by (with_reducible repeat (first | apply Kd.N_alloc | apply Kd.N_drewN | apply Kd.N_drew)); exact Kd.N_mono HO_9.out (fun _ hk => hk.1), by repeat (first | (with_reducible first | exact HB.out | apply below_alloc | apply pw_below_drewN | apply below_drew1) | exact HB.out)⟩

end Go.Proofs.YtfkajhppdeidjaaDoor.M
