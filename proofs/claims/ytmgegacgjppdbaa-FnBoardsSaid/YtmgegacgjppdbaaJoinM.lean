/-
  Plain laws on texts: how long a joined text is.
-/
import Derived.Test.YtmgegacgjppdbaaMath
set_option linter.unusedVariables false
namespace Go.Proofs.Ytmgegacgjppdbaa.M
theorem jn_bd (sep : ByteArray) (B : Nat) : ∀ (n : Nat) (l : List ByteArray), l.length = n → (∀ x ∈ l, x.size ≤ B) → (jn sep l).size ≤ n * (B + sep.size)
  | 0, l, h, _ => by obtain rfl := List.eq_nil_of_length_eq_zero h; simp [jn_nil]
  | n + 1, l, h, hs => by
      rcases nil_or_snoc l with rfl | ⟨l', x, rfl⟩
      · simp at h
      · have ih := jn_bd sep B n l' (by simpa using h) (fun y hy => hs y (by simp [hy]))
        have hx := hs x (by simp)
        rw [Nat.succ_mul]
        by_cases e : l' = []
        · subst e; rw [List.nil_append, jn_one, ByteArray.size_append]; simp; omega
        · rw [jn_snoc _ _ _ e, ByteArray.size_append, ByteArray.size_append]; omega
end Go.Proofs.Ytmgegacgjppdbaa.M
