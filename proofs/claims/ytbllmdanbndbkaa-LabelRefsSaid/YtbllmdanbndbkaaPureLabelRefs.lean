/- Which texts may be names of refs, and which of branches, is told as the document tells it, for every text. Conditions: none. -/
import Derived.Test.YtbllmdanbndbkaaMx4
import Derived.Test.YtbllmdanbndbkaaPl05
import Derived.Test.YtbllmdanbndbkaaPlRef
namespace Go.Proofs.Ytbllmdanbndbkaa.Pure
open Go.RowKit Go.Proofs.Ytbllmdanbndbkaa.M Go.Proofs.YtbllmdanbndbkaaW.PrintWords Go.Proofs.YtbllmdanbndbkaaW.PrintLast
open Go.Proofs.Ytbllmdanbndbkaa.Pl

theorem LabelRefs : pollardlaw05_LabelRefs.Pure := by
  intro s hs
  obtain ⟨t, ht, hl⟩ := few05 s hs
  obtain ⟨h1, h2⟩ := ref_prog t
  obtain ⟨K, h3⟩ := ref_doc t (by omega)
  have h3' : pollardref05_Ref.f K t = some (refK t) := h3 K (Nat.le_refl _)
  refine ⟨K, ?_⟩
  unfold pollardlaw05_LabelRefs.f
  rw [ht, Option.bind_some, h3', Option.bind_some, awake05, Option.bind_some, if_pos rfl, h1, Option.bind_some, h2, if_pos (by simp), Option.bind_some]
  congr 1
  rw [beq_iff_eq]
  exact (Bool.beq_eq_decide_eq _ _).symm
end Go.Proofs.Ytbllmdanbndbkaa.Pure
