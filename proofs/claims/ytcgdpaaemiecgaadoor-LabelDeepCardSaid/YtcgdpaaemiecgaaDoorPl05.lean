/- The statements' own small functions. -/
import Derived.Test.YtcgdpaaemiecgaaDoorMx2
import Derived.Test.YtcgdpaaemiecgaaDoorPlBase
namespace Go.Proofs.YtcgdpaaemiecgaaDoor.Pl
open Go.RowKit Go.Proofs.YtcgdpaaemiecgaaDoor.M Go.Proofs.YtcgdpaaemiecgaaDoorW.PrintWords Go.Proofs.YtcgdpaaemiecgaaDoorW.PrintLast

theorem awake05 : pollardlaw05_awake.f = some true := by decide +kernel

theorem few05 (s : ByteArray) (hs : s.size ≤ 140737488351232) : ∃ t, pollardlaw05_few.f s = some t ∧ t.size ≤ 300 := by
  unfold pollardlaw05_few.f
  by_cases h : (s.size : Int) > 300
  · rw [if_pos h, if_pos (by omega), if_pos (by omega)]
    exact ⟨_, rfl, by simp [ByteArray.size_extract]; omega⟩
  · rw [if_neg h]
    exact ⟨_, rfl, by omega⟩
end Go.Proofs.YtcgdpaaemiecgaaDoor.Pl
