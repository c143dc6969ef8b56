/-
  Walks: a number's text, in the program and in the reference.
-/
import Derived.Test.YthlkdaogmcjlbaaProg
import Derived.Test.YthlkdaogmcjlbaaMath
import Derived.Test.YthlkdaogmcjlbaaKit
import Derived.BigQuiet
import Derived.WalkSpells
import Derived.WalkLawsBesides
namespace Go.Proofs.Ythlkdaogmcjlbaa.Num
open Go.RowKit

set_option maxHeartbeats 400000 in
theorem i_text_nn (n : Nat) (w : World) (h1 : n < 4611686018427387904) :
    Calls Try.prog 108 #[.int .i64 n] w fun e w' => e = .returned (.string (M.tx n)) ∧ Below w.heap.size w w' := by
  have hcv := fun (w : World) (x : Int) => K.conv1 (P := Try.prog) Try.underlying47 Try.underlying5 Try.underlying9 w x 5
  have hs0 := M.tx_size19 h1
  have hlt0 : decide ((n : Int) < 0) = false := by simp
  go_enter Try.func108, Try.ntmps108
  go_wp2_with fail
  go_loopw [0, 3] (fun m o wr => ∃ (k : Nat) (l : ByteArray), k ≤ n ∧ m = .int .i64 k ∧ o = .string l ∧ Hid (M.tx n = M.tx k ++ l) ∧ l.size + 1 ≤ (M.tx n).size ∧ Below w.heap.size w wr) (fun m _ wr => (intOf m).toNat)
  case atStart => exact ⟨n, ByteArray.empty, by omega, rfl, rfl, Lib.hid (by simp), by have := M.tx_pos n; simpa using this, Below.refl _ _⟩
  case round =>
    obtain ⟨k, l, hk, rfl, rfl, hx, hl, hb⟩ := hrel
    have hbs := hb.size
    by_cases h10 : k < 10
    · go_wp2
      go_ret
      refine ⟨K.ret_str ?_, hb.alloc hbs _⟩
      rw [hx.out, M.tx_lt h10, M.dg, Nat.mod_eq_of_lt h10]
    · have HX := Lib.hid (show M.tx n = M.tx (k / 10) ++ (M.dg (k % 10) ++ l) by rw [hx.out, M.tx_ge (by omega), ByteArray.append_assoc])
      have hl2 : (M.dg (k % 10) ++ l).size + 1 ≤ (M.tx n).size := by
        have h := congrArg ByteArray.size HX.out
        rw [ByteArray.size_append] at h
        have := M.tx_pos (k / 10)
        omega
      clear hx
      go_wp2
      go_roundw
      case rel => exact ⟨k / 10, _, by omega, by go_num, rfl, HX, hl2, hb.alloc hbs _⟩
      case measure => simp [intOf]; omega

set_option maxHeartbeats 400000 in
theorem i_text (n : Int) (w : World) (h0 : -4611686018427387904 < n) (h1 : n < 4611686018427387904) :
    Calls Try.prog 108 #[.int .i64 n] w fun e w' => e = .returned (.string (M.txt n)) ∧ Below w.heap.size w w' := by
  by_cases hn : 0 ≤ n
  · obtain ⟨k, rfl⟩ := Int.eq_ofNat_of_zero_le hn
    exact (i_text_nn k w (by omega)).mono fun e w' h => ⟨by rw [h.1, M.txt_nn hn]; rfl, h.2⟩
  · obtain ⟨k, hk⟩ := Int.eq_ofNat_of_zero_le (show 0 ≤ -n by omega)
    obtain rfl : n = -(k : Int) := by omega
    have hT := Lib.hid (show M.txt (-(k : Int)) = ⟨#[45]⟩ ++ M.tx k by rw [M.txt_neg (by omega)]; congr 2; omega)
    have hs := M.tx_size19 (n := k) (by omega)
    clear hk
    go_enter Try.func108, Try.ntmps108
    go_wp2_with fail
    refine (i_text_nn k _ (by omega)).mono ?_
    rintro e w1 ⟨rfl, hb⟩
    go_wp2
    go_ret
    exact ⟨K.ret_str (by rw [hT.out]), hb⟩

set_option maxHeartbeats 400000 in
theorem s_num_nn (f : Nat) : ∀ (n : Nat) (w : World), n < f → n < 4611686018427387904 →
    Calls Try.prog 110 #[.int .i64 n] w fun e w' => e = .returned (.string (M.tx n)) ∧ ∃ m, w' = w.drewN m := by
  induction f with
  | zero => intro n w h; omega
  | succ f ih =>
    intro n w hf h1
    have hd : decide ((n : Int) < 0) = false := by simp
    by_cases h10 : n < 10
    · have hx := Lib.hid (show M.tx n = (ByteArray.mk #[48, 49, 50, 51, 52, 53, 54, 55, 56, 57]).extract n (n + 1) by rw [M.tx_lt h10]; exact (M.digits_at n h10).symm)
      clear ih
      go_enter Try.func110, Try.ntmps110
      go_wp2_with fail
      go_ret
      exact ⟨K.ret_str (by rw [hx.out]), 0, rfl⟩
    · have hx := Lib.hid (show M.tx n = M.tx (n / 10) ++ (ByteArray.mk #[48, 49, 50, 51, 52, 53, 54, 55, 56, 57]).extract (n % 10) (n % 10 + 1) by rw [M.tx_ge (by omega)]; congr 1; exact (M.digits_at (n % 10) (by omega)).symm)
      have hs := M.tx_size19 (n := n / 10) (by omega)
      have hc := Lib.hid (fun W => ih (n / 10) W (by omega) (by omega))
      clear ih
      go_enter Try.func110, Try.ntmps110
      go_wp2_with fail
      go_quiet ((go_at_call 110; exact Calls.quiet_of (hc.out _)))
      go_wp2
      go_ret
      exact ⟨K.ret_str (by rw [hx.out]), _, rfl⟩

set_option maxHeartbeats 400000 in
theorem s_num (n : Int) (w : World) (h0 : -4611686018427387904 < n) (h1 : n < 4611686018427387904) :
    Calls Try.prog 110 #[.int .i64 n] w fun e w' => e = .returned (.string (M.txt n)) ∧ ∃ m, w' = w.drewN m := by
  by_cases hn : 0 ≤ n
  · obtain ⟨k, rfl⟩ := Int.eq_ofNat_of_zero_le hn
    exact (s_num_nn (k + 1) k w (by omega) (by omega)).mono fun e w' h => ⟨by rw [h.1, M.txt_nn hn]; rfl, h.2⟩
  · obtain ⟨k, hk⟩ := Int.eq_ofNat_of_zero_le (show 0 ≤ -n by omega)
    obtain rfl : n = -(k : Int) := by omega
    have hT := Lib.hid (show M.txt (-(k : Int)) = ⟨#[45]⟩ ++ M.tx k by rw [M.txt_neg (by omega)]; congr 2; omega)
    have hs := M.tx_size19 (n := k) (by omega)
    clear hk
    go_enter Try.func110, Try.ntmps110
    go_wp2_with fail
    refine (s_num_nn (k + 1) k _ (by omega) (by omega)).mono ?_
    rintro e w1 ⟨rfl, m, rfl⟩
    go_wp2
    go_ret
    exact ⟨K.ret_str (by rw [hT.out]), m, rfl⟩
end Go.Proofs.Ythlkdaogmcjlbaa.Num
