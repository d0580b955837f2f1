/- The statements' own small functions. -/
import Derived.Test.YtbllmdanbndbkaaMx1
import Derived.Test.YtbllmdanbndbkaaPlBase
namespace Go.Proofs.Ytbllmdanbndbkaa.Pl
open Go.RowKit Go.Proofs.Ytbllmdanbndbkaa.M Go.Proofs.YtbllmdanbndbkaaW.PrintWords Go.Proofs.YtbllmdanbndbkaaW.PrintLast

theorem awake05 : pollardlaw05_awake.f = some true := by decide +kernel

theorem few05 (s : ByteArray) (hs : s.size ≤ 140737488351232) : ∃ t, pollardlaw05_few.f s = some t ∧ t.size ≤ 300 := by
  unfold pollardlaw05_few.f
  by_cases h : (s.size : Int) > 300
  · rw [if_pos h, if_pos (by omega), if_pos (by omega)]
    exact ⟨_, rfl, by simp [ByteArray.size_extract]; omega⟩
  · rw [if_neg h]
    exact ⟨_, rfl, by omega⟩
end Go.Proofs.Ytbllmdanbndbkaa.Pl
