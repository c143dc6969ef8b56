/-
  Walks: the moves between two frames, in the program.
-/
import Derived.Test.YthlkdaogmcjlbaaMoveR
import Derived.Test.YthlkdaogmcjlbaaKit5
import Derived.Test.YthlkdaogmcjlbaaMoveT
set_option linter.unusedVariables false
namespace Go.Proofs.Ythlkdaogmcjlbaa.M
theorem move_one (l : List Move) : ∀ u ∈ l.flatMap moveCells, u.oneCell' = true := by
  intro u hu
  obtain ⟨m, _, h⟩ := List.mem_flatMap.1 hu
  simp only [moveCells, List.mem_cons, List.not_mem_nil, or_false] at h
  rcases h with rfl | rfl | rfl <;> rfl
end Go.Proofs.Ythlkdaogmcjlbaa.M
namespace Go.Proofs.Ythlkdaogmcjlbaa.MoveBI
open Go.RowKit
set_option maxRecDepth 100000 in
set_option maxHeartbeats 8000000 in
theorem i_btw (u1 v1 u2 v2 : Int) (A B2 : Option Addr) (c c2 : Nat) (l l2 : List (Int × Int)) (w : World) (hl : l.length ≤ 8) (hl2 : l.length = l2.length) (hx : ∀ k (hk : k < l.length), (-10 ≤ l[k].1 ∧ l[k].1 ≤ 10) ∧ -10 ≤ l[k].2 ∧ l[k].2 ≤ 10) (hy : ∀ k (hk : k < l2.length), (-10 ≤ l2[k].1 ∧ l2[k].1 ≤ 10) ∧ -10 ≤ l2[k].2 ∧ l2[k].2 ≤ 10) (ha : K.Rd w 2 A l.length (l.flatMap M.rodCells)) (hb : K.Rd w 2 B2 l2.length (l2.flatMap M.rodCells)) :
    Calls Try.prog 103 #[.agg #[.int .i64 u1, .int .i64 v1, .slice A l.length c], .agg #[.int .i64 u2, .int .i64 v2, .slice B2 l2.length c2]] w (K.RetRow w 25 3 (M.btTo l l2 l.length).length ((M.btTo l l2 l.length).flatMap M.moveCells)) := by
  obtain ⟨i0, hi0, hz0, hz1, hz2⟩ := info_parts Moves.info
  obtain ⟨o1, ho1⟩ : ∃ o : Obj, o = .cells #[.int .i64 u1, .int .i64 v1, .slice A l.length c] 33 := ⟨_, rfl⟩
  obtain ⟨o2, ho2⟩ : ∃ o : Obj, o = .cells #[.int .i64 u2, .int .i64 v2, .slice B2 l2.length c2] 33 := ⟨_, rfl⟩
  have p1 : K.Box ((w.alloc o1).alloc o2) w.heap.size [.int .i64 u1, .int .i64 v1, .slice A l.length c] := by have h := K.Box.new w #[.int .i64 u1, .int .i64 v1, .slice A l.length c] 33; rw [← ho1] at h; exact h.alloc o2
  have p2 : K.Box ((w.alloc o1).alloc o2) (w.heap.size + 1) [.int .i64 u2, .int .i64 v2, .slice B2 l2.length c2] := by have h := K.Box.new (w.alloc o1) #[.int .i64 u2, .int .i64 v2, .slice B2 l2.length c2] 33; rw [World.size_alloc, ← ho2] at h; exact h
  have bb : Below w.heap.size w ((w.alloc o1).alloc o2) := ((Below.refl _ _).alloc (Nat.le_refl _) o1).alloc (by simp) o2
  have e1 := K.Row.nil ((w.alloc o1).alloc o2) (w.heap.size + 1 + 1) 25 3
  have hsz : w.heap.size + 1 + 1 ≤ ((w.alloc o1).alloc o2).heap.size := by simp
  subst ho1 ho2
  have HT := Lib.hid (fun k h h2 => M.btTo_succ l l2 k h h2)
  have HTL := Lib.hid (fun k => M.btTo_len l l2 k)
  have H0 : Hid (M.btTo l l2 0 = []) := Lib.hid rfl
  have HL2 := Lib.hid hl2
  have hl3 : l.length ≤ l2.length := by omega
  have hl4 : l2.length ≤ l.length := by omega
  clear hl2
  obtain ⟨q0, q1, q2⟩ := p1.c3
  go_enter Try.func103, Try.ntmps103
  go_wp2_with fail
  clear q0 q1 q2
  go_loopw [10, 5] (fun i o wr => ∃ (k n : Nat) (B : Option Addr) (d : Nat), k ≤ l.length ∧ Hid ((M.btTo l l2 k).length = n) ∧ i = .int .i64 (k : Int) ∧ o = .slice B n d ∧ Hid (K.Row wr (w.heap.size + 1 + 1) 25 3 B n d ((M.btTo l l2 k).flatMap M.moveCells)) ∧ Hid (Below w.heap.size w wr) ∧ Hid (K.Box wr w.heap.size [.int .i64 u1, .int .i64 v1, .slice A l.length c]) ∧ Hid (K.Box wr (w.heap.size + 1) [.int .i64 u2, .int .i64 v2, .slice B2 l2.length c2]) ∧ w.heap.size + 1 + 1 ≤ wr.heap.size) (fun i _ _ => l.length - (intOf i).toNat)
  case atStart => exact ⟨0, 0, none, 0, Nat.zero_le _, Lib.hid rfl, rfl, rfl, Lib.hid e1, Lib.hid bb, Lib.hid p1, Lib.hid p2, hsz⟩
  case round =>
    clear e1 bb p1 p2 hsz
    obtain ⟨k, n, B, d, hk, HN, rfl, rfl, HROW, HB, HP1, HP2, hsz⟩ := hrel
    by_cases hlt : k < l.length
    · have hlt2 : k < l2.length := by omega
      have h1 : (k : Int) < (l.length : Int) := by omega
      have h2 : (0 : Int) ≤ (k : Int) := by omega
      have h3 : (k : Int) < (l2.length : Int) := by omega
      have hn16 : n ≤ 16 := by have := HTL.out k; rw [HN.out] at this; omega
      obtain ⟨ga, oa, rfl, hga, ca0, ca1⟩ := ha.rod hlt
      obtain ⟨gb, ob, rfl, hgb, cb0, cb1⟩ := hb.rod hlt2
      have HS := Lib.hid (HT.out k hlt hlt2)
      obtain ⟨⟨x1, x2⟩, x3, x4⟩ := hx k hlt
      obtain ⟨⟨y1, y2⟩, y3, y4⟩ := hy k hlt2
      have HE1 : Hid (M.btOne (k : Int) l[k] l2[k] = M.btOne (k : Int) (l[k].1, l[k].2) (l2[k].1, l2[k].2)) := Lib.hid rfl
      rw [HE1.out] at HS
      clear hx hy HE1
      generalize l[k].1 = xa at *
      generalize l[k].2 = xb at *
      generalize l2[k].1 = ya at *
      generalize l2[k].2 = yb at *
      have HR := Lib.hid (fun w => MoveR.i_rod (k : Int) xa xb ya yb w ⟨x1, x2⟩ ⟨x3, x4⟩ ⟨y1, y2⟩ ⟨y3, y4⟩)
      have hD2 := M.btOne_len (k : Int) (xa, xb) (ya, yb)
      generalize M.btOne (k : Int) (xa, xb) (ya, yb) = D at *
      have hone := M.move_one D
      have a0 := K.At.of HP1.out.1 HP1.out.c3.2.2
      have b0 := K.At.of HP2.out.1 HP2.out.c3.2.2
      have a1 := (K.At.of (p := ⟨ga, oa + k * 2, none⟩) hga ca0).low HB.out hga
      have a2 := (K.At.of (p := ⟨ga, oa + k * 2 + 1, none⟩) hga ca1).low HB.out hga
      have b1 := (K.At.of (p := ⟨gb, ob + k * 2, none⟩) hgb cb0).low HB.out hgb
      have b2 := (K.At.of (p := ⟨gb, ob + k * 2 + 1, none⟩) hgb cb1).low HB.out hgb
      have hnm : n + D.length ≤ maxLen := by simp only [maxLen]; omega
      go_wp2_with fail
      go_region_held3 (fun w' => w'.cell? ⟨w.heap.size, 2, none⟩ = some (.slice (some ⟨ga, oa, none⟩) l.length c) ∧ w'.cell? ⟨w.heap.size + 1, 2, none⟩ = some (.slice (some ⟨gb, ob, none⟩) l2.length c2) ∧ w'.cell? ⟨ga, oa + k * 2, none⟩ = some (.int .i64 xa) ∧ w'.cell? ⟨ga, oa + k * 2 + 1, none⟩ = some (.int .i64 xb) ∧ w'.cell? ⟨gb, ob + k * 2, none⟩ = some (.int .i64 ya) ∧ w'.cell? ⟨gb, ob + k * 2 + 1, none⟩ = some (.int .i64 yb))
        (((try dsimp only); refine ⟨(by refine K.At.cell (u := .slice (some ⟨ga, oa, none⟩) l.length c) ?_; (repeat (first | with_reducible assumption | (with_reducible refine K.At.alloc ?_ _) | (with_reducible refine K.At.drew ?_) | (with_reducible refine K.At.below ?_ (by with_reducible assumption))))), (by refine K.At.cell (u := .slice (some ⟨gb, ob, none⟩) l2.length c2) ?_; (repeat (first | with_reducible assumption | (with_reducible refine K.At.alloc ?_ _) | (with_reducible refine K.At.drew ?_) | (with_reducible refine K.At.below ?_ (by with_reducible assumption))))), (by refine K.At.cell (u := .int .i64 xa) ?_; (repeat (first | with_reducible assumption | (with_reducible refine K.At.alloc ?_ _) | (with_reducible refine K.At.drew ?_) | (with_reducible refine K.At.below ?_ (by with_reducible assumption))))), (by refine K.At.cell (u := .int .i64 xb) ?_; (repeat (first | with_reducible assumption | (with_reducible refine K.At.alloc ?_ _) | (with_reducible refine K.At.drew ?_) | (with_reducible refine K.At.below ?_ (by with_reducible assumption))))), (by refine K.At.cell (u := .int .i64 ya) ?_; (repeat (first | with_reducible assumption | (with_reducible refine K.At.alloc ?_ _) | (with_reducible refine K.At.drew ?_) | (with_reducible refine K.At.below ?_ (by with_reducible assumption))))), (by refine K.At.cell (u := .int .i64 yb) ?_; (repeat (first | with_reducible assumption | (with_reducible refine K.At.alloc ?_ _) | (with_reducible refine K.At.drew ?_) | (with_reducible refine K.At.below ?_ (by with_reducible assumption)))))⟩))
        (first | (go_at_call 114; ((with_reducible refine (HR.out _).mono ?_)); rintro e w3 ⟨B3, d3, rfl, row3, b3⟩; have s3 := b3.size; (try simp at s3); have hB3 := Lib.hid (HB.out.drew.trans (b3.mono HB.out.drew.size)); have hR3 := Lib.hid (HROW.out.drew.below b3)) | (refine K.stepN (by rfl) (.tmp 13) (.tmp 25) _ (by rfl) (w.heap.size + 1 + 1) _ i0 _ 3 24 Try.underlying43 hi0 hz0 hz1 hz2 rfl (by omega) B n d _ (by rfl) hR3.out B3 D.length d3 _ (by rfl) row3.rd hone hnm (by omega) (by omega) ?_; intro B4 c4 w4 hrow4 hb4 hg4 _; have a05 := (a0.drew.below b3).low hb4 (by first | (simp; done) | (simp; omega)); have b05 := (b0.drew.below b3).low hb4 (by first | (simp; done) | (simp; omega)); have a15 := (a1.drew.below b3).low hb4 (by first | (simp; done) | (simp; omega)); have a25 := (a2.drew.below b3).low hb4 (by first | (simp; done) | (simp; omega)); have b15 := (b1.drew.below b3).low hb4 (by first | (simp; done) | (simp; omega)); have b25 := (b2.drew.below b3).low hb4 (by first | (simp; done) | (simp; omega))))
      all_goals go_wp2_with fail
      all_goals
        go_roundw
        case rel => exact ⟨k + 1, n + D.length, B4, c4, by omega, Lib.hid (by rw [HS.out, List.length_append, HN.out]), by go_num, rfl, Lib.hid (by rw [HS.out, List.flatMap_append]; exact hrow4), Lib.hid (hB3.out.trans (hb4.mono (by omega))), Lib.hid ((HP1.out.drew.below b3).low hb4 (by omega)), Lib.hid ((HP2.out.drew.below b3).low hb4 (by omega)), by have := hb4.size; omega⟩
        case measure => simp [intOf]; omega
    · obtain rfl : k = l.length := by omega
      have hn := HN.out
      generalize M.btTo l l2 l.length = RR at *
      subst hn
      go_wp2_with fail
      go_ret
      exact ⟨B, d, rfl, HROW.out.more (by omega), HB.out⟩
end Go.Proofs.Ythlkdaogmcjlbaa.MoveBI
