/-
  Walks: the law file's helpers on slices of ints: their size, a copy, equality, marking and asking for the marks.
-/
import Derived.Test.YthlkdaogmcjlbaaProg
import Derived.Test.YthlkdaogmcjlbaaKit2
import Derived.BigQuiet
import Derived.WalkSpells
import Derived.WalkLawsBesides
import Derived.Deep.RegionHeld3
set_option linter.unusedVariables false
namespace Go.Proofs.Ythlkdaogmcjlbaa.M
def markInts (k n : Nat) : List Int := (List.range n).map fun (i : Nat) => (k : Int) + i
theorem markInts_succ (k n : Nat) : markInts k (n + 1) = markInts k n ++ [(k : Int) + n] := by simp [markInts, List.range_succ]
theorem markInts_len (k n : Nat) : (markInts k n).length = n := by simp [markInts]
theorem markInts_at (k n i : Nat) (h : i < (markInts k n).length) : (markInts k n)[i] = (k : Int) + i := by simp [markInts]
end Go.Proofs.Ythlkdaogmcjlbaa.M
namespace Go.Proofs.Ythlkdaogmcjlbaa.SlInt
open Go.RowKit
end Go.Proofs.Ythlkdaogmcjlbaa.SlInt
