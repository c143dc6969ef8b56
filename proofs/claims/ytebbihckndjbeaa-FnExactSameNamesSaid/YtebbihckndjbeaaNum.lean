/-
  Walks: a number's text, in the program and in the reference.
-/
import Derived.Test.YtebbihckndjbeaaProg
import Derived.Test.YtebbihckndjbeaaMath
import Derived.Test.YtebbihckndjbeaaKit
import Derived.BigQuiet
import Derived.WalkSpells
import Derived.WalkLawsBesides
namespace Go.Proofs.Ytebbihckndjbeaa.Num
open Go.RowKit



set_option maxHeartbeats 400000 in
theorem markText (n : Nat) (w : World) (h0 : 1 ≤ n) (h1 : n < 4611686018427387904) :
    Calls Try.prog 83 #[.int .i64 n] w fun e w' => e = .returned (.string (M.mk n)) ∧ Below w.heap.size w w' := by
  have hcv := fun (w : World) (x : Int) => K.conv1 (P := Try.prog) Try.underlying29 Try.underlying5 Try.underlying9 w x 5
  have hs0 := M.tx_size19 h1
  have hle : decide ((n : Int) ≤ 0) = false := by simp; omega
  go_enter Try.func83, Try.ntmps83
  go_wp2_with fail
  go_loopw [0, 3] (fun m o wr => ∃ (k : Nat) (l : ByteArray), k ≤ n ∧ m = .int .i64 k ∧ o = .string l ∧ Hid (M.tx n = if k = 0 then l else M.tx k ++ l) ∧ l.size ≤ (M.tx n).size ∧ (0 < k → l.size + 1 ≤ (M.tx n).size) ∧ Below w.heap.size w wr) (fun m _ wr => (intOf m).toNat)
  case atStart => exact ⟨n, ByteArray.empty, by omega, rfl, rfl, Lib.hid (by rw [if_neg (by omega)]; simp), by simp, fun _ => by have := M.tx_pos n; simpa using this, Below.refl _ _⟩
  case round =>
    obtain ⟨k, l, hk, rfl, rfl, hx, hl, hl1, hb⟩ := hrel
    have hbs := hb.size
    by_cases hk0 : 0 < k
    · have hl2 := hl1 hk0
      have HX := Lib.hid (show M.tx n = if k / 10 = 0 then M.dg (k % 10) ++ l else M.tx (k / 10) ++ (M.dg (k % 10) ++ l) by
        rw [hx.out, if_neg (by omega)]
        by_cases h10 : k < 10
        · rw [if_pos (by omega), M.tx_lt h10, Nat.mod_eq_of_lt h10]
        · rw [if_neg (by omega), M.tx_ge (by omega), ByteArray.append_assoc])
      have hs2 : (M.dg (k % 10) ++ l).size ≤ (M.tx n).size := by rw [ByteArray.size_append, M.dg_size]; omega
      have hs3 : 0 < k / 10 → (M.dg (k % 10) ++ l).size + 1 ≤ (M.tx n).size := by
        intro h
        have h' := congrArg ByteArray.size HX.out
        rw [if_neg (by omega), ByteArray.size_append] at h'
        have := M.tx_pos (k / 10)
        omega
      clear hx hl1
      have HS3 := Lib.hid hs3
      clear hs3
      go_wp2
      go_roundw
      case rel => exact ⟨k / 10, _, by omega, by go_num, rfl, HX, hs2, HS3.out, hb.alloc hbs _⟩
      case measure => simp [intOf]; omega
    · obtain rfl : k = 0 := by omega
      have HX := Lib.hid (show M.tx n = l by rw [hx.out, if_pos rfl])
      clear hx hl1
      go_wp2
      go_ret
      exact ⟨K.ret_str (by rw [M.mk, HX.out]), hb⟩
end Go.Proofs.Ytebbihckndjbeaa.Num
