/- strings.CutPrefix, in one word. -/
import Derived.Test.YtnapcfpecpgdbaaDoorMx8
import Derived.Test.YtnapcfpecpgdbaaDoorPlBase
namespace Go.Proofs.YtnapcfpecpgdbaaDoor.Pl
open Go.RowKit Go.Proofs.YtnapcfpecpgdbaaDoor.M Go.Proofs.YtnapcfpecpgdbaaDoorW.PrintWords Go.Proofs.YtnapcfpecpgdbaaDoorW.PrintLast

theorem cutp (s p : ByteArray) : strings_CutPrefix.f s p = if p.size ≤ s.size ∧ (s.extract 0 p.size).toList = p.toList then some (s.extract p.size s.size, true) else some (s, false) := by
 unfold strings_CutPrefix.f sl_CutPrefix.f sl_HasPrefix.f
 by_cases h : p.size ≤ s.size
 · rw [if_pos (by omega), if_pos (by omega), if_pos (by omega)]
   simp only [Option.bind_some, Int.toNat_natCast]
   by_cases e : (s.extract 0 p.size).toList = p.toList
   · rw [if_pos (by simpa using e), if_pos (by omega), if_pos (by omega), if_pos ⟨h, e⟩]
     simp
   · rw [if_neg (by simpa using e), if_neg (by simp [e])]
     simp
 · have hn : ¬ (p.size ≤ s.size ∧ (s.extract 0 p.size).toList = p.toList) := fun hh => h hh.1
   rw [if_neg (show ¬ (s.size : Int) ≥ (p.size : Int) by omega), if_neg hn]
   simp


end Go.Proofs.YtnapcfpecpgdbaaDoor.Pl
