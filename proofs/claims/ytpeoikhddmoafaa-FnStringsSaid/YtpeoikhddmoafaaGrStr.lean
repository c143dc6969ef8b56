/-
  Walks: the helpers of the great laws on texts.
-/
import Derived.Test.YtpeoikhddmoafaaDraw2
import Derived.Test.YtpeoikhddmoafaaStrN
import Derived.Test.YtpeoikhddmoafaaSplitStr
import Derived.Test.YtpeoikhddmoafaaJoin
set_option linter.unusedVariables false
namespace Go.Proofs.Ytpeoikhddmoafaa.GrStr
open Go.RowKit
theorem vbig (A : Option Addr) (n c : Nat) (w : World) : Calls Try.prog 35 #[.slice A n c] w fun e w' => e = .returned (.bool (decide (65536 < n))) ∧ w = w' := by
  go_enter Try.func35, Try.ntmps35
  go_wp2
  go_ret
  exact ⟨K.ret_bool (by rw [decide_eq_decide]; omega), rfl⟩
theorem less_i (a b : ByteArray) (w : World) : Calls Try.prog 15 #[.string a, .string b] w fun e w' => e = .returned (.bool (Op.bytesLess a.toList b.toList)) ∧ w = w' := by
  go_enter Try.func15, Try.ntmps15
  go_wp2
  go_ret
  exact ⟨rfl, rfl⟩
theorem less_s (a b : ByteArray) (w : World) : Calls Try.prog 14 #[.string a, .string b] w fun e w' => e = .returned (.bool (Op.bytesLess a.toList b.toList)) ∧ w = w' := by
  go_enter Try.func14, Try.ntmps14
  go_wp2
  go_ret
  exact ⟨rfl, rfl⟩
theorem less_asym : ∀ x y : List UInt8, (Op.bytesLess x y && Op.bytesLess y x) = false
  | [], [] => rfl
  | [], _ :: _ => rfl
  | _ :: _, [] => rfl
  | a :: x, b :: y => by
      have ih := less_asym x y
      show ((decide (a < b) || (a == b && Op.bytesLess x y)) && (decide (b < a) || (b == a && Op.bytesLess y x))) = false
      by_cases h1 : a < b
      · have h2 : ¬ b < a := fun h => by
          have := UInt8.lt_iff_toNat_lt.1 h
          have := UInt8.lt_iff_toNat_lt.1 h1
          omega
        have h3 : (b == a) = false := beq_eq_false_iff_ne.2 (fun e => by subst e; have := UInt8.lt_iff_toNat_lt.1 h1; omega)
        simp [h2, h3]
      · by_cases h2 : a = b
        · subst h2
          simpa [h1] using ih
        · have h3 : (a == b) = false := beq_eq_false_iff_ne.2 h2
          simp [h1, h3]
theorem part_le (sep : ByteArray) (l : List ByteArray) : ∀ x ∈ l, x.size ≤ (M.jn sep l).size := by
  intro x hx
  obtain ⟨k, hk, rfl⟩ := List.getElem_of_mem hx
  have h1 := M.jn_le sep l (k + 1) (by omega)
  have h2 := M.jn_take sep l k hk
  by_cases h0 : k = 0
  · rw [if_pos h0] at h2; rw [h2, ByteArray.size_append] at h1; omega
  · rw [if_neg h0] at h2; rw [h2, ByteArray.size_append] at h1; omega
end Go.Proofs.Ytpeoikhddmoafaa.GrStr
