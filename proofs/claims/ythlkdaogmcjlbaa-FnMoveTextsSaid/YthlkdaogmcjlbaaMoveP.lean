/-
  Walks: the move that a word tells.
-/
import Derived.Test.YthlkdaogmcjlbaaMoveM
import Derived.Test.YthlkdaogmcjlbaaKit5
import Derived.WalkKit
import Derived.BigRegion
set_option linter.unusedVariables false
namespace Go.Proofs.Ythlkdaogmcjlbaa.M
theorem ba_getD (x : ByteArray) (k : Nat) (hk : k < x.size) : x.data.toList.getD k 0 = x[k] := by
  have hl : k < x.data.toList.length := by simpa using hk
  rw [List.getD_eq_getElem?_getD, List.getElem?_eq_getElem hl]
  simp [ByteArray.getElem_eq_getElem_data]
theorem u8_eq (a : UInt8) (n : Nat) (hn : n < 256) : a = UInt8.ofNat n ↔ (a.toNat : Int) = (n : Int) := by
  constructor
  · intro h; subst h; simp; omega
  · intro h
    apply UInt8.toNat_inj.1
    simp; omega
theorem readWord_no {x : ByteArray} (h : x.size ≠ 4) : readWord x = ⟨0, 0, 0⟩ := by simp [readWord, h]
def rdMv (a b c d : Int) : Move := ⟨a - 48, if b = 108 then 1 else 0, if c = 45 then -(d - 48) else d - 48⟩
theorem readWord_yes {x : ByteArray} (h : x.size = 4) (h0 : 0 < x.size) (h1 : 1 < x.size) (h2 : 2 < x.size) (h3 : 3 < x.size) : readWord x = rdMv x[0].toNat x[1].toNat x[2].toNat x[3].toNat := by
  unfold readWord rdMv
  rw [if_pos h, ba_getD x 0 h0, ba_getD x 1 h1, ba_getD x 2 h2, ba_getD x 3 h3]
  have e1 : (x[1] = 108) = ((x[1].toNat : Int) = 108) := propext (u8_eq x[1] 108 (by omega))
  have e2 : (x[2] = 45) = ((x[2].toNat : Int) = 45) := propext (u8_eq x[2] 45 (by omega))
  simp only [e1, e2]
theorem u8_bd (a : UInt8) : 0 ≤ (a.toNat : Int) ∧ (a.toNat : Int) ≤ 255 := by have := a.toNat_lt; omega
end Go.Proofs.Ythlkdaogmcjlbaa.M
namespace Go.Proofs.Ythlkdaogmcjlbaa.MoveP
open Go.RowKit
set_option maxHeartbeats 4000000 in
theorem s_read (x : ByteArray) (w : World) (hx : x.size ≤ 1048576) :
    Calls Try.prog 87 #[.string x] w fun e w2 => e = .returned (.agg #[.int .i64 (M.readWord x).rod, .int .i64 (M.readWord x).part, .int .i64 (M.readWord x).by_]) ∧ Below w.heap.size w w2 := by
  have own : K.Own (w.alloc (.cells #[.int .i64 0, .int .i64 0, .int .i64 0] 25)) w.heap.size [.int .i64 0, .int .i64 0, .int .i64 0] := K.Own.new w #[.int .i64 0, .int .i64 0, .int .i64 0] 25
  have hwz : w.heap.size < (w.alloc (.cells #[.int .i64 0, .int .i64 0, .int .i64 0] 25)).heap.size := by simp
  by_cases h4 : x.size = 4
  rotate_left
  · rw [M.readWord_no h4]
    have hne : ((x.size : Int) != 4) = true := by rw [bne_iff_ne]; omega
    go_enter Try.func87, Try.ntmps87
    go_wp2_with fail
    exact bodyPost_ret (v := .agg #[.int .i64 0, .int .i64 0, .int .i64 0]) (by simp [results, Try.results87, go_sem]) rfl ⟨rfl, (Below.refl _ _).alloc (Nat.le_refl _) _⟩
  · have h0 : 0 < x.size := by omega
    have h1 : 1 < x.size := by omega
    have h2 : 2 < x.size := by omega
    have h3 : 3 < x.size := by omega
    rw [M.readWord_yes h4 h0 h1 h2 h3]
    have hne : ((x.size : Int) != 4) = false := by rw [h4]; rfl
    have k1 : (1 : Int) < (x.size : Int) := by omega
    have k2 : (2 : Int) < (x.size : Int) := by omega
    have k3 : (3 : Int) < (x.size : Int) := by omega
    clear h4
    obtain ⟨a0, a1⟩ := M.u8_bd x[0]
    obtain ⟨d0, d1⟩ := M.u8_bd x[3]
    have sa : IntKind.i64.wrap ((x[0].toNat : Int) - 48) = (x[0].toNat : Int) - 48 := IntWalk.i64_in _ (by omega)
    have sd : IntKind.i64.wrap ((x[3].toNat : Int) - 48) = (x[3].toNat : Int) - 48 := IntWalk.i64_in _ (by omega)
    by_cases hb : (x[1].toNat : Int) = 108
    · have t1 : ((x[1].toNat : Int) == 108) = true := by simp [hb]
      have HB := Lib.hid hb
      clear hb
      by_cases hc : (x[2].toNat : Int) = 45
      · have t2 : ((x[2].toNat : Int) == 45) = true := by simp [hc]
        have HC := Lib.hid hc
        clear hc
        go_enter Try.func87, Try.ntmps87
        go_wp2_with fail
        go_region
        go_wp2_with fail
        exact bodyPost_ret (v := .agg #[.int .i64 ((x[0].toNat : Int) - 48), .int .i64 1, .int .i64 (-((x[3].toNat : Int) - 48))]) (by simp [results, Try.results87, go_sem]) rfl ⟨by have hb := HB.out; have hc := HC.out; simp [M.rdMv, hb, hc], by (repeat (first | exact Below.refl _ _ | assumption | (refine K.below_drewN ?_ _) | (refine Below.drew ?_) | (refine Below.alloc ?_ (by first | (simp; done) | (simp; omega) | omega) _) | (refine Below.setCell ?_ (by first | (simp; done) | (simp; omega) | omega) _)))⟩
      · have t2 : ((x[2].toNat : Int) == 45) = false := by simp [hc]
        have HC := Lib.hid hc
        clear hc
        go_enter Try.func87, Try.ntmps87
        go_wp2_with fail
        go_region
        go_wp2_with fail
        exact bodyPost_ret (v := .agg #[.int .i64 ((x[0].toNat : Int) - 48), .int .i64 1, .int .i64 ((x[3].toNat : Int) - 48)]) (by simp [results, Try.results87, go_sem]) rfl ⟨by have hb := HB.out; have hc := HC.out; simp [M.rdMv, hb, hc], by (repeat (first | exact Below.refl _ _ | assumption | (refine K.below_drewN ?_ _) | (refine Below.drew ?_) | (refine Below.alloc ?_ (by first | (simp; done) | (simp; omega) | omega) _) | (refine Below.setCell ?_ (by first | (simp; done) | (simp; omega) | omega) _)))⟩
    · have t1 : ((x[1].toNat : Int) == 108) = false := by simp [hb]
      have HB := Lib.hid hb
      clear hb
      by_cases hc : (x[2].toNat : Int) = 45
      · have t2 : ((x[2].toNat : Int) == 45) = true := by simp [hc]
        have HC := Lib.hid hc
        clear hc
        go_enter Try.func87, Try.ntmps87
        go_wp2_with fail
        go_region
        go_wp2_with fail
        exact bodyPost_ret (v := .agg #[.int .i64 ((x[0].toNat : Int) - 48), .int .i64 0, .int .i64 (-((x[3].toNat : Int) - 48))]) (by simp [results, Try.results87, go_sem]) rfl ⟨by have hb := HB.out; have hc := HC.out; simp [M.rdMv, hb, hc], by (repeat (first | exact Below.refl _ _ | assumption | (refine K.below_drewN ?_ _) | (refine Below.drew ?_) | (refine Below.alloc ?_ (by first | (simp; done) | (simp; omega) | omega) _) | (refine Below.setCell ?_ (by first | (simp; done) | (simp; omega) | omega) _)))⟩
      · have t2 : ((x[2].toNat : Int) == 45) = false := by simp [hc]
        have HC := Lib.hid hc
        clear hc
        go_enter Try.func87, Try.ntmps87
        go_wp2_with fail
        go_region
        go_wp2_with fail
        exact bodyPost_ret (v := .agg #[.int .i64 ((x[0].toNat : Int) - 48), .int .i64 0, .int .i64 ((x[3].toNat : Int) - 48)]) (by simp [results, Try.results87, go_sem]) rfl ⟨by have hb := HB.out; have hc := HC.out; simp [M.rdMv, hb, hc], by (repeat (first | exact Below.refl _ _ | assumption | (refine K.below_drewN ?_ _) | (refine Below.drew ?_) | (refine Below.alloc ?_ (by first | (simp; done) | (simp; omega) | omega) _) | (refine Below.setCell ?_ (by first | (simp; done) | (simp; omega) | omega) _)))⟩
end Go.Proofs.Ythlkdaogmcjlbaa.MoveP
