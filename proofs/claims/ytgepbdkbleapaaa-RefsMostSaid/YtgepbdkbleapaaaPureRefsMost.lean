/- So many refs there may be, and no more, whatever updates ask for. Conditions: none. -/
import Derived.Test.YtgepbdkbleapaaaMx9
import Derived.Test.YtgepbdkbleapaaaPlBits
namespace Go.Proofs.Ytgepbdkbleapaaa.Pure
set_option linter.unusedVariables false
open Go.RowKit Go.Proofs.Ytgepbdkbleapaaa.M Go.Proofs.YtgepbdkbleapaaaW.PrintWords Go.Proofs.YtgepbdkbleapaaaW.PrintLast Go.Proofs.Ytgepbdkbleapaaa.Pl
set_option maxRecDepth 100000 in
theorem most0 : pollardlaw13_RefsMost.l0 700 0 0 (⟨#[104, 101, 97, 100, 115, 47, 109, 97, 105, 110]⟩ : ByteArray) [] = some true := by decide +kernel
set_option maxRecDepth 100000 in
theorem most1 : pollardlaw13_RefsMost.l0 700 1 0 (⟨#[104, 101, 97, 100, 115, 47, 109, 97, 105, 110]⟩ : ByteArray) [] = some true := by decide +kernel
set_option maxRecDepth 100000 in
theorem most2 : pollardlaw13_RefsMost.l0 700 2 0 (⟨#[104, 101, 97, 100, 115, 47, 109, 97, 105, 110]⟩ : ByteArray) [] = some true := by decide +kernel
set_option maxRecDepth 100000 in
theorem most3 : pollardlaw13_RefsMost.l0 700 3 0 (⟨#[104, 101, 97, 100, 115, 47, 109, 97, 105, 110]⟩ : ByteArray) [] = some true := by decide +kernel
theorem RefsMost : pollardlaw13_RefsMost.Pure := by
  intro a0 _
  have h : Go.bits .and .i64 a0 3 = a0 % 4 := and_low 2 (by decide) a0
  have hm : a0 % 4 = 0 ∨ a0 % 4 = 1 ∨ a0 % 4 = 2 ∨ a0 % 4 = 3 := by omega
  refine ⟨700, ?_⟩
  unfold pollardlaw13_RefsMost.f
  rw [h]
  rcases hm with e | e | e | e
  · rw [e]; exact most0
  · rw [e]; exact most1
  · rw [e]; exact most2
  · rw [e]; exact most3
end Go.Proofs.Ytgepbdkbleapaaa.Pure
