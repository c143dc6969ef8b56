/-
  Walks of the smallest helpers: is a number in a range; the lesser, the greater; a byte in a text.
-/
import Derived.Test.YtpeoikhddmoafaaProg
import Derived.Test.YtpeoikhddmoafaaMath
import Derived.Test.YtpeoikhddmoafaaKit
import Derived.BigQuiet
import Derived.WalkSpells
import Derived.WalkLawsBesides
namespace Go.Proofs.Ytpeoikhddmoafaa.Base
open Go.RowKit

theorem i_within_yes (n lo hi : Int) (w : World) (h1 : lo ≤ n) (h2 : n ≤ hi) :
    Calls Try.prog 46 #[.int .i64 n, .int .i64 lo, .int .i64 hi] w fun e w' => e = .returned (.bool true) ∧ w = w' := by
  go_enter Try.func46, Try.ntmps46
  go_wp2
  go_ret
  exact ⟨rfl, rfl⟩
theorem i_within_no (n lo hi : Int) (w : World) (h : n < lo ∨ hi < n) :
    Calls Try.prog 46 #[.int .i64 n, .int .i64 lo, .int .i64 hi] w fun e w' => e = .returned (.bool false) ∧ w = w' := by
  by_cases h1 : lo ≤ n
  · have h2 : ¬ n ≤ hi := by omega
    go_enter Try.func46, Try.ntmps46
    go_wp2
    go_ret
    exact ⟨rfl, rfl⟩
  · have hd : decide (lo ≤ n) = false := by simpa using h1
    go_enter Try.func46, Try.ntmps46
    go_wp2
    go_ret
    exact ⟨rfl, rfl⟩
theorem i_within (n lo hi : Int) (w : World) :
    Calls Try.prog 46 #[.int .i64 n, .int .i64 lo, .int .i64 hi] w fun e w' => e = .returned (.bool (M.inR n lo hi)) ∧ w = w' := by
  by_cases h : lo ≤ n ∧ n ≤ hi
  · rw [M.inR_yes h.1 h.2]; exact i_within_yes n lo hi w h.1 h.2
  · rw [M.inR_no (by omega)]; exact i_within_no n lo hi w (by omega)
theorem s_in_yes (n lo hi : Int) (w : World) (h1 : lo ≤ n) (h2 : n ≤ hi) :
    Calls Try.prog 44 #[.int .i64 n, .int .i64 lo, .int .i64 hi] w fun e w' => e = .returned (.bool true) ∧ w = w' := by
  go_enter Try.func44, Try.ntmps44
  go_wp2
  go_ret
  exact ⟨rfl, rfl⟩
theorem s_in_no (n lo hi : Int) (w : World) (h : n < lo ∨ hi < n) :
    Calls Try.prog 44 #[.int .i64 n, .int .i64 lo, .int .i64 hi] w fun e w' => e = .returned (.bool false) ∧ w = w' := by
  by_cases h1 : lo ≤ n
  · have h2 : ¬ n ≤ hi := by omega
    go_enter Try.func44, Try.ntmps44
    go_wp2
    go_ret
    exact ⟨rfl, rfl⟩
  · have hd : decide (lo ≤ n) = false := by simpa using h1
    go_enter Try.func44, Try.ntmps44
    go_wp2
    go_ret
    exact ⟨rfl, rfl⟩
theorem s_in (n lo hi : Int) (w : World) :
    Calls Try.prog 44 #[.int .i64 n, .int .i64 lo, .int .i64 hi] w fun e w' => e = .returned (.bool (M.inR n lo hi)) ∧ w = w' := by
  by_cases h : lo ≤ n ∧ n ≤ hi
  · rw [M.inR_yes h.1 h.2]; exact s_in_yes n lo hi w h.1 h.2
  · rw [M.inR_no (by omega)]; exact s_in_no n lo hi w (by omega)
theorem s_stands (s : ByteArray) (b : Int) (w : World) (hs : s.size ≤ 1048576) :
    Calls Try.prog 53 #[.string s, .int .u8 b] w fun e w' => e = .returned (.bool (M.stands s.data.toList b)) ∧ w = w' := by
  go_enter Try.func53, Try.ntmps53
  go_wp2_with fail
  go_loop [5] (fun i => ∃ k : Nat, k ≤ s.size ∧ i = .int .i64 k ∧ Hid (M.stands (s.data.toList.take k) b = false)) (fun i => s.size - (intOf i).toNat)
  case atStart => exact ⟨0, Nat.zero_le _, rfl, Lib.hid (by simp [M.stands])⟩
  case round =>
    obtain ⟨k, hk, rfl, hx⟩ := hrel
    by_cases hlt : k < s.size
    · have HS := Lib.hid (show M.stands (s.data.toList.take (k + 1)) b = ((s[k].toNat : Int) == b) by rw [M.take_snoc s k hlt, M.stands_snoc, hx.out]; rfl)
      clear hx
      by_cases he : (s[k].toNat : Int) = b
      · have he' : ((s[k].toNat : Int) == b) = true := beq_iff_eq.2 he
        have HF := Lib.hid (M.stands_of_take (k := k + 1) (HS.out.trans he'))
        clear he
        go_wp2
        go_ret
        exact ⟨K.ret_bool (by rw [HF.out]), rfl⟩
      · have he' : ((s[k].toNat : Int) == b) = false := beq_eq_false_iff_ne.2 he
        clear he
        go_wp2
        go_round
        case rel => exact ⟨k + 1, by omega, by go_num, Lib.hid (HS.out.trans he')⟩
        case measure => simp [intOf]; omega
    · have HF := Lib.hid (show M.stands s.data.toList b = false by
        have h := hx.out
        rwa [List.take_of_length_le (by simp; omega)] at h)
      go_wp2
      go_ret
      exact ⟨K.ret_bool (by rw [HF.out]), rfl⟩
end Go.Proofs.Ytpeoikhddmoafaa.Base
