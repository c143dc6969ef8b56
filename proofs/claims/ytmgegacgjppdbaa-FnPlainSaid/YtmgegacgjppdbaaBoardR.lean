/-
  Plain laws on boards: how long a plain board is.
-/
import Derived.Test.YtmgegacgjppdbaaBoardQ
import Derived.Test.YtmgegacgjppdbaaBoardGM
set_option linter.unusedVariables false
namespace Go.Proofs.Ytmgegacgjppdbaa.M
theorem plainB_le (l k : List Int) : (plainB l k).1.1.length ≤ 6 ∧ (plainB l k).1.2.length ≤ 6 := by
  cases hok : bOk l k with
  | false => rw [plainB_no hok]; simp
  | true =>
    rw [plainB_yes hok]
    cases e : plFrom l.length (some (l, k, 0)) l.length 0 with
    | none => simp [plEnd]
    | some t =>
      have h := plFrom_val l.length 0 (l, k, 0) t hok (by simp) e
      have h1 := (plOk_ix t).1 h.1
      unfold plEnd
      simp only
      split
      · simp only; omega
      · simp
end Go.Proofs.Ytmgegacgjppdbaa.M
