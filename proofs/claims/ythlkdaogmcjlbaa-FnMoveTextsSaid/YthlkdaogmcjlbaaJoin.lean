/-
  Walks: texts put together, in the program and in the reference.
-/
import Derived.Test.YthlkdaogmcjlbaaSplit
import Derived.Test.YthlkdaogmcjlbaaBase
import Derived.Deep.RegionHeld3
set_option linter.unusedVariables false
namespace Go.Proofs.Ythlkdaogmcjlbaa.Join
open Go.RowKit

set_option maxHeartbeats 1000000 in
theorem i_join (A : Option Addr) (c : Nat) (l : List ByteArray) (sep : ByteArray) (w : World) (hl : l.length ≤ 1048576) (hz : (M.jn sep l).size ≤ 4611686018427387904) (ha : K.Rd w 1 A l.length (l.map Value.string)) :
    Calls Try.prog 109 #[.slice A l.length c, .string sep] w fun e w' => e = .returned (.string (M.jn sep l)) ∧ w = w' := by
  have HZ := Lib.hid (fun k (h : k ≤ l.length) => Nat.le_trans (M.jn_le sep l k h) hz)
  have HE := Lib.hid (show l.take l.length = l from List.take_length)
  clear hz
  go_enter Try.func109, Try.ntmps109
  go_wp2_with fail
  go_loop [5, 10] (fun o i => ∃ k : Nat, k ≤ l.length ∧ i = .int .i64 k ∧ o = .string (M.jn sep (l.take k))) (fun _ i => l.length - (intOf i).toNat)
  case atStart => exact ⟨0, Nat.zero_le _, rfl, by simp [M.jn_nil]; rfl⟩
  case round =>
    obtain ⟨k, hk, rfl, rfl⟩ := hrel
    by_cases hlt : k < l.length
    · obtain ⟨g, o, rfl, hc⟩ := ha.str hlt
      have hs := HZ.out (k + 1) (by omega)
      have hj := M.jn_take sep l k hlt
      have h1 : (k : Int) < (l.length : Int) := by omega
      have h2 : (0 : Int) ≤ (k : Int) := by omega
      by_cases h0 : k = 0
      · have hd : decide (0 < k) = false := decide_eq_false (by omega)
        rw [if_pos h0] at hj
        rw [hj, ByteArray.size_append] at hs
        have HJ := Lib.hid hj
        clear hj h0
        generalize M.jn sep (l.take k) = T at *
        go_wp2
        go_round
        case rel => exact ⟨k + 1, by omega, by go_num, by rw [HJ.out]⟩
        case measure => simp [intOf]; omega
      · have hd : decide (0 < k) = true := decide_eq_true (by omega)
        rw [if_neg h0] at hj
        rw [hj, ByteArray.size_append, ByteArray.size_append] at hs
        have HJ := Lib.hid hj
        clear hj h0
        generalize M.jn sep (l.take k) = T at *
        go_wp2
        go_round
        case rel => exact ⟨k + 1, by omega, by go_num, by rw [HJ.out]⟩
        case measure => simp [intOf]; omega
    · obtain rfl : k = l.length := by omega
      rw [HE.out]
      go_wp2
      go_ret
      exact ⟨rfl, rfl⟩

def RetStrB (w : World) (s : ByteArray) (ok : Bool) (e : Ending) (w' : World) : Prop := e = .returned (.tuple #[.string s, .bool ok]) ∧ Below w.heap.size w w'
end Go.Proofs.Ythlkdaogmcjlbaa.Join
