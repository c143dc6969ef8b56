/-
  Walks: the greatest common divisor, and a fraction brought to its lowest terms.
-/
import Derived.Test.YtebbihckndjbeaaPupilL
set_option linter.unusedVariables false
namespace Go.Proofs.Ytebbihckndjbeaa.PupilR
open Go.RowKit
theorem gcd_step (m j : Nat) : Nat.gcd m (j + 1) = Nat.gcd (j + 1) (m % (j + 1)) := by
  rw [Nat.gcd_comm m, Nat.gcd_rec, Nat.gcd_comm]
theorem i_gcd (a b : Nat) (w : World) (ha : a ≤ 1048576) (hb : b ≤ 1048576) :
    Calls Try.prog 89 #[.int .i64 (a : Int), .int .i64 (b : Int)] w fun e w' => e = .returned (.int .i64 ((Nat.gcd a b : Nat) : Int)) ∧ Below w.heap.size w w' := by
  generalize hG : Nat.gcd a b = G
  go_enter Try.func89, Try.ntmps89
  go_wp2_with fail
  go_loopw [0, 1] (fun x y wr => ∃ m n : Nat, m ≤ 1048576 ∧ n ≤ 1048576 ∧ x = .int .i64 (m : Int) ∧ y = .int .i64 (n : Int) ∧ Hid (Nat.gcd m n = G) ∧ Hid (Below w.heap.size w wr)) (fun _ y _ => (intOf y).toNat)
  case atStart => exact ⟨a, b, ha, hb, rfl, rfl, Lib.hid hG, Lib.hid (Below.refl _ _)⟩
  case round =>
    obtain ⟨m, n, hm, hn, rfl, rfl, hg, HB⟩ := hrel
    cases n with
    | zero =>
      have hQ : G = m := by rw [← hg.out, Nat.gcd_zero_right]
      clear hg hG
      subst hQ
      go_wp2_with fail
      go_ret
      exact ⟨rfl, HB.out⟩
    | succ j =>
      have hd : (((j + 1 : Nat) : Int) != 0) = true := by simp; omega
      have HK := Lib.hid (show Nat.gcd (j + 1) (m % (j + 1)) = G by rw [← gcd_step]; exact hg.out)
      have hl := Nat.mod_lt m (show 0 < j + 1 by omega)
      have h0 : (0 : Int) ≤ (m : Int) := by omega
      clear hg hG
      go_wp2_with fail
      go_region
      go_wp2_with fail
      go_roundw
      case rel => exact ⟨j + 1, m % (j + 1), by omega, by omega, by first | rfl | go_num, by first | rfl | (congr 1; omega), HK, Lib.hid HB.out.drew⟩
      case measure => simp [intOf]; exact Int.emod_lt_of_pos _ (by omega)
theorem i_fraction (a b : Nat) (w : World) (ha : a ≤ 1048576) (hb : b ≤ 1048576) (hb0 : 0 < b) :
    Calls Try.prog 80 #[.int .i64 (a : Int), .int .i64 (b : Int)] w fun e w' => e = .returned (.tuple #[.int .i64 ((a : Int) / ((Nat.gcd a b : Nat) : Int)), .int .i64 ((b : Int) / ((Nat.gcd a b : Nat) : Int))]) ∧ Below w.heap.size w w' := by
  have HA : Hid (∀ w : World, Calls Try.prog 90 #[.int .i64 (a : Int)] w fun e w' => e = .returned (.int .i64 (a : Int)) ∧ w = w') := Lib.hid fun w => by
    have h0 : (0 : Int) ≤ (a : Int) := by omega
    go_enter Try.func90, Try.ntmps90
    go_wp2_with fail
    go_ret
    exact ⟨rfl, rfl⟩
  have HG := Lib.hid (fun w => i_gcd a b w ha hb)
  have hg0 : 0 < Nat.gcd a b := Nat.gcd_pos_of_pos_right a hb0
  have hg1 : Nat.gcd a b ≤ b := Nat.le_of_dvd hb0 (Nat.gcd_dvd_right a b)
  generalize Nat.gcd a b = G at *
  have h0 : (0 : Int) ≤ (a : Int) := by omega
  have h1 : (0 : Int) < (G : Int) := by omega
  have h2 : (0 : Int) ≤ (b : Int) := by omega
  have k1 : (0 : Int) ≤ (a : Int) / (G : Int) := Int.ediv_nonneg h0 (by omega)
  have k2 : (a : Int) / (G : Int) ≤ a := Int.ediv_le_self _ h0
  have k3 : (0 : Int) ≤ (b : Int) / (G : Int) := Int.ediv_nonneg h2 (by omega)
  have k4 : (b : Int) / (G : Int) ≤ b := Int.ediv_le_self _ h2
  go_enter Try.func80, Try.ntmps80
  go_wp2_with fail
  refine (HA.out _).mono ?_
  rintro e w1 ⟨rfl, rfl⟩
  go_wp2_with fail
  refine (HG.out _).mono ?_
  rintro e w1 ⟨rfl, b1⟩
  go_wp2_with fail
  go_region
  go_wp2_with fail
  go_ret2
  exact ⟨rfl, b1.drew⟩
theorem s_reduce (a b : Nat) (w : World) (ha : a ≤ 1048576) (hb : b ≤ 1048576) (hb0 : 0 < b) :
    Calls Try.prog 81 #[.int .i64 (a : Int), .int .i64 (b : Int)] w fun e w' => e = .returned (.tuple #[.int .i64 ((a : Int) / ((Nat.gcd a b : Nat) : Int)), .int .i64 ((b : Int) / ((Nat.gcd a b : Nat) : Int))]) ∧ Below w.heap.size w w' := by
  have HA := Lib.hid (fun w => PupilL.s_most (a : Int) (-(a : Int)) w)
  rw [show max (a : Int) (-(a : Int)) = (a : Int) by omega] at HA
  have hg0 : 0 < Nat.gcd a b := Nat.gcd_pos_of_pos_right a hb0
  have hg1 : Nat.gcd a b ≤ b := Nat.le_of_dvd hb0 (Nat.gcd_dvd_right a b)
  generalize hG : Nat.gcd a b = G at *
  have HG := Lib.hid hG
  clear hG
  have h0 : (0 : Int) ≤ (a : Int) := by omega
  have h1 : (0 : Int) < (G : Int) := by omega
  have h2 : (0 : Int) ≤ (b : Int) := by omega
  have k1 : (0 : Int) ≤ (a : Int) / (G : Int) := Int.ediv_nonneg h0 (by omega)
  have k2 : (a : Int) / (G : Int) ≤ a := Int.ediv_le_self _ h0
  have k3 : (0 : Int) ≤ (b : Int) / (G : Int) := Int.ediv_nonneg h2 (by omega)
  have k4 : (b : Int) / (G : Int) ≤ b := Int.ediv_le_self _ h2
  go_enter Try.func81, Try.ntmps81
  go_wp2_with fail
  refine (HA.out _).mono ?_
  rintro e w1 ⟨rfl, rfl⟩
  go_wp2_with fail
  go_loopw [6, 7] (fun x y wr => ∃ m n : Nat, m ≤ 1048576 ∧ n ≤ 1048576 ∧ x = .int .i64 (m : Int) ∧ y = .int .i64 (n : Int) ∧ Hid (Nat.gcd m n = G) ∧ Hid (Below w.heap.size w wr)) (fun _ y _ => (intOf y).toNat)
  case atStart => exact ⟨a, b, ha, hb, rfl, rfl, HG, Lib.hid (Below.refl _ _)⟩
  case round =>
    obtain ⟨m, n, hm, hn, rfl, rfl, hg, HB⟩ := hrel
    cases n with
    | zero =>
      have hQ : m = G := by rw [← hg.out, Nat.gcd_zero_right]
      clear hg HG
      subst hQ
      go_wp2_with fail
      go_region
      go_wp2_with fail
      go_ret2
      exact ⟨rfl, HB.out.drew⟩
    | succ j =>
      have hd : (((j + 1 : Nat) : Int) != 0) = true := by simp; omega
      have HK := Lib.hid (show Nat.gcd (j + 1) (m % (j + 1)) = G by rw [← gcd_step]; exact hg.out)
      have hl := Nat.mod_lt m (show 0 < j + 1 by omega)
      have h5 : (0 : Int) ≤ (m : Int) := by omega
      clear hg HG
      go_wp2_with fail
      go_roundw
      case rel => exact ⟨j + 1, m % (j + 1), by omega, by omega, by first | rfl | go_num, by first | rfl | (congr 1; omega), HK, HB⟩
      case measure => simp [intOf]; exact Int.emod_lt_of_pos _ (by omega)
end Go.Proofs.Ytebbihckndjbeaa.PupilR
