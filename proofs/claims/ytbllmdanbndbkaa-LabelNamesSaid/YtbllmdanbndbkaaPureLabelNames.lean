/- Which texts may be names is told as the document tells it, for every text. Conditions: none. -/
import Derived.Test.YtbllmdanbndbkaaMx3
import Derived.Test.YtbllmdanbndbkaaPl05
import Derived.Test.YtbllmdanbndbkaaPlName
namespace Go.Proofs.Ytbllmdanbndbkaa.Pure
open Go.RowKit Go.Proofs.Ytbllmdanbndbkaa.M Go.Proofs.YtbllmdanbndbkaaW.PrintWords Go.Proofs.YtbllmdanbndbkaaW.PrintLast
open Go.Proofs.Ytbllmdanbndbkaa.Pl

theorem LabelNames : pollardlaw05_LabelNames.Pure := by
  intro s hs
  obtain ⟨t, ht, hl⟩ := few05 s hs
  obtain ⟨r, h1, h2⟩ := name_eq t (by omega)
  obtain ⟨K, h2⟩ := h2
  have h2' : pollardref05_Name.f K t = some r := h2 K (Nat.le_refl _)
  refine ⟨K, ?_⟩
  unfold pollardlaw05_LabelNames.f
  rw [awake05, Option.bind_some, if_pos rfl, ht, Option.bind_some, h1, Option.bind_some, h2', Option.bind_some]
  simp
end Go.Proofs.Ytbllmdanbndbkaa.Pure
