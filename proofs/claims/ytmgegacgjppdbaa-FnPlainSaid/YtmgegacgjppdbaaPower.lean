/-
  Walks: a power of ten (for the seats of boards).
-/
import Derived.Test.YtmgegacgjppdbaaBase
import Derived.Test.YtmgegacgjppdbaaKit2
import Derived.IntWalk
set_option linter.unusedVariables false
namespace Go.Proofs.Ytmgegacgjppdbaa.M
theorem pw_le {n : Nat} (h : n ≤ 7) : 1 ≤ (10 : Int) ^ n ∧ (10 : Int) ^ n ≤ 10000000 := by
  have h1 : (10 : Nat) ^ n ≤ 10 ^ 7 := Nat.pow_le_pow_right (by omega) h
  have h2 : 0 < (10 : Nat) ^ n := Nat.pow_pos (by omega)
  have h3 : (((10 : Nat) ^ n : Nat) : Int) = (10 : Int) ^ n := by simp
  omega
end Go.Proofs.Ytmgegacgjppdbaa.M
namespace Go.Proofs.Ytmgegacgjppdbaa.Pow
open Go.RowKit
theorem i_power (x : Int) (n : Nat) (w : World) (hx : x = n) (h : n ≤ 7) :
    Calls Try.prog 62 #[.int .i64 x] w fun e w' => e = .returned (.int .i64 ((10 : Int) ^ n)) ∧ w = w' := by
  subst hx
  go_enter Try.func62, Try.ntmps62
  go_wp2
  go_loopw [0, 3] (fun i p wr => ∃ j : Nat, j ≤ n ∧ i = .int .i64 j ∧ p = .int .i64 ((10 : Int) ^ (n - j)) ∧ w = wr) (fun i _ _ => (intOf i).toNat)
  case atStart => exact ⟨n, Nat.le_refl _, rfl, by simp, by simp⟩
  case round =>
    obtain ⟨j, hj, rfl, rfl, rfl⟩ := hrel
    by_cases hlt : 0 < j
    · have h1 : (0 : Int) < (j : Int) := by omega
      obtain ⟨p1, p2⟩ := M.pw_le (n := n - j) (by omega)
      have HP := Lib.hid (show (10 : Int) ^ (n - (j - 1)) = 10 ^ (n - j) * 10 by rw [show n - (j - 1) = n - j + 1 by omega, Int.pow_succ])
      generalize (10 : Int) ^ (n - j) = p at *
      go_wp2
      go_roundw
      case rel => exact ⟨j - 1, by omega, by go_num, by rw [HP.out], trivial⟩
      case measure => simp [intOf]; omega
    · obtain rfl : j = 0 := by omega
      go_wp2
      go_ret
      exact ⟨rfl, rfl⟩
end Go.Proofs.Ytmgegacgjppdbaa.Pow
