/-
  More of the kit: the capacity of a row of one's own.
-/
import Derived.Test.YthlkdaogmcjlbaaKit2
set_option linter.unusedVariables false
namespace Go.Proofs.Ythlkdaogmcjlbaa.K
open Go.RowKit
theorem Row.cap {w : World} {lo size n c : Nat} {e : TypeId} {A : Option Addr} {xs : List Value} (h : Row w lo e size A n c xs) : c ≤ 9223372036854775807 := by
  rcases h.form with ⟨_, _, rfl⟩ | ⟨g, cur, _, _, _, _, _, h4, _⟩
  · omega
  · simp only [maxLen] at h4; omega
end Go.Proofs.Ythlkdaogmcjlbaa.K
