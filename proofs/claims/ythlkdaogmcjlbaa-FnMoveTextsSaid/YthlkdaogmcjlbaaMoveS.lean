/-
  Walks: the draw of a spoilt text (printed by gen_mspoil.py).
-/
import Derived.Test.YthlkdaogmcjlbaaCur
import Derived.Test.YthlkdaogmcjlbaaKit5
import Derived.Test.YthlkdaogmcjlbaaMoveQ
set_option linter.unusedVariables false
namespace Go.Proofs.Ythlkdaogmcjlbaa.MoveD
open Go.RowKit
set_option maxRecDepth 100000 in
set_option maxHeartbeats 2000000 in
theorem spoilt (t u : ByteArray) (w : World) (lo g B : Nat) (h : K.Cur w lo g B) (hB : B ≤ 1000000) (ht : t.size ≤ 1000000) (hu : 1 ≤ u.size ∧ u.size ≤ 8) :
    Calls Try.prog 85 #[.pointer (some ⟨g, 0, none⟩), .string t, .string u] w fun e w' => ∃ s : ByteArray, e = .returned (.string s) ∧ s.size ≤ t.size + 1 ∧ K.Went w lo g B 10 w' := by
  obtain ⟨hu1, hu8⟩ := hu
  have hu1i : (1 : Int) ≤ (u.size : Int) := by omega
  have C := Lib.hid h
  have G := Lib.hid (World.grownBy.refl w (some g))
  clear h
  by_cases h0 : t.size = 0
  · have hs := M.str_nil h0
    clear h0
    go_enter Try.func85, Try.ntmps85
    go_wp2_with fail
    go_ret
    exact ⟨_, rfl, by rw [ByteArray.size_extract]; omega, C.out.mono (by omega), G.out⟩
  · have hs := M.str_full h0
    have ht0 : 0 < t.size := by omega
    clear h0
    go_enter Try.func85, Try.ntmps85
    go_wp2_with fail
    refine (Cur.pick _ lo g _ (t.size : Int) C.out (by omega)).mono ?_
    rintro e w1 ⟨x, rfl, ⟨x0, x1⟩, q1⟩
    replace G := Lib.hid (K.grown_trans G.out q1.2)
    replace C := Lib.hid q1.1
    clear q1
    obtain ⟨k, rfl⟩ := Int.eq_ofNat_of_zero_le x0
    have hk : k < t.size := by omega
    have hki : (k : Int) ≤ (t.size : Int) := by omega
    have hki1 : (k : Int) + 1 ≤ (t.size : Int) := by omega
    have hk0 : (0 : Int) ≤ (k : Int) := by omega
    have hk01 : (0 : Int) ≤ (k : Int) + 1 := by omega
    have hkw : IntKind.i64.wrap ((k : Int) + 1) = (k : Int) + 1 := IntWalk.i64_in _ (by omega)
    clear x0 x1
    go_wp2_with fail
    refine (Cur.pick _ lo g _ (u.size : Int) C.out (by omega)).mono ?_
    rintro e w2 ⟨y, rfl, ⟨y0, y1⟩, q2⟩
    replace G := Lib.hid (K.grown_trans G.out q2.2)
    replace C := Lib.hid q2.1
    clear q2
    obtain ⟨j, rfl⟩ := Int.eq_ofNat_of_zero_le y0
    have hj : j < u.size := by omega
    have hji : (j : Int) ≤ (u.size : Int) := by omega
    have hj0 : (0 : Int) ≤ (j : Int) := by omega
    have hj1 : (1 : Int) ≤ ((u.extract j u.size).size : Int) := by rw [ByteArray.size_extract]; omega
    clear y0 y1
    go_wp2_with fail
    refine (Cur.pick _ lo g _ 3 C.out (by omega)).mono ?_
    rintro e w3 ⟨z, rfl, ⟨z0, z1⟩, q3⟩
    replace G := Lib.hid (K.grown_trans G.out q3.2)
    replace C := Lib.hid q3.1
    clear q3
    by_cases z0c : z = 0
    · have t0 : (z == 0) = true := by rw [beq_iff_eq]; omega
      clear z0c
      clear z0 z1
      go_wp2_with fail
      go_quiet (fail)
      go_wp2_with fail
      go_ret
      exact ⟨_, rfl, by simp only [ByteArray.size_append, ByteArray.size_extract]; omega, C.out.mono (by omega), K.grown_trans G.out (K.grown_below (K.below_drewN (Below.refl _ _) _) _)⟩
    have t0 : (z == 0) = false := by rw [beq_eq_false_iff_ne]; omega
    by_cases z1c : z = 1
    · have t1 : (z == 1) = true := by rw [beq_iff_eq]; omega
      clear z1c
      clear z0 z1
      go_wp2_with fail
      go_quiet (fail)
      go_wp2_with fail
      go_ret
      exact ⟨_, rfl, by simp only [ByteArray.size_append, ByteArray.size_extract]; omega, C.out.mono (by omega), K.grown_trans G.out (K.grown_below (K.below_drewN (Below.refl _ _) _) _)⟩
    have t1 : (z == 1) = false := by rw [beq_eq_false_iff_ne]; omega
    clear z0 z1
    go_wp2_with fail
    go_quiet (fail)
    go_wp2_with fail
    go_ret
    exact ⟨_, rfl, by simp only [ByteArray.size_append, ByteArray.size_extract]; omega, C.out.mono (by omega), K.grown_trans G.out (K.grown_below (K.below_drewN (Below.refl _ _) _) _)⟩
end Go.Proofs.Ythlkdaogmcjlbaa.MoveD
