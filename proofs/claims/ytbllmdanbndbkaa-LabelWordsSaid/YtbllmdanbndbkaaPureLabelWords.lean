/- How many runes any bytes have, and how many bytes are none, is told as the document tells it, for every text. Conditions: none. -/
import Derived.Test.YtbllmdanbndbkaaMx4
import Derived.Test.YtbllmdanbndbkaaPl05
import Derived.Test.YtbllmdanbndbkaaPlWords
namespace Go.Proofs.Ytbllmdanbndbkaa.Pure
open Go.RowKit Go.Proofs.Ytbllmdanbndbkaa.M Go.Proofs.YtbllmdanbndbkaaW.PrintWords Go.Proofs.YtbllmdanbndbkaaW.PrintLast
open Go.Proofs.Ytbllmdanbndbkaa.Pl

theorem LabelWords : pollardlaw05_LabelWords.Pure := by
  intro s hs
  obtain ⟨t, ht, hl⟩ := few05 s hs
  obtain ⟨r, h1, h2⟩ := words_eq t (by omega)
  obtain ⟨K, h2⟩ := h2
  have h2' : pollardref05_Words.f K t = some r := h2 K (Nat.le_refl _)
  refine ⟨K, ?_⟩
  unfold pollardlaw05_LabelWords.f
  rw [ht, Option.bind_some, h1, Option.bind_some, h2', Option.bind_some, awake05, Option.bind_some, if_pos rfl, if_pos rfl]
  simp
end Go.Proofs.Ytbllmdanbndbkaa.Pure
