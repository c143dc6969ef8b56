/-
  Walks: the moves between two rods.
-/
import Derived.Test.YthlkdaogmcjlbaaMoveW
import Derived.Test.YthlkdaogmcjlbaaMoveBM
import Derived.Test.YthlkdaogmcjlbaaKit5
set_option linter.unusedVariables false
namespace Go.Proofs.Ythlkdaogmcjlbaa.M
theorem btPart_zero {r p a b : Int} (h : b - a = 0) : btPart r p a b = [] := by simp [btPart, h]
theorem btPart_ne {r p a b : Int} (h : ¬ b - a = 0) : btPart r p a b = [⟨r, p, b - a⟩] := by simp [btPart, h]
end Go.Proofs.Ythlkdaogmcjlbaa.M
namespace Go.Proofs.Ythlkdaogmcjlbaa.MoveR
open Go.RowKit
set_option maxRecDepth 100000 in
set_option maxHeartbeats 4000000 in
theorem i_rod (r a1 a2 b1 b2 : Int) (w : World) (x1 : -10 ≤ a1 ∧ a1 ≤ 10) (x2 : -10 ≤ a2 ∧ a2 ≤ 10) (y1 : -10 ≤ b1 ∧ b1 ≤ 10) (y2 : -10 ≤ b2 ∧ b2 ≤ 10) :
    Calls Try.prog 114 #[.int .i64 r, .agg #[.int .i64 a1, .int .i64 a2], .agg #[.int .i64 b1, .int .i64 b2]] w (K.RetRow w 25 3 (M.btOne r (a1, a2) (b1, b2)).length ((M.btOne r (a1, a2) (b1, b2)).flatMap M.moveCells)) := by
  obtain ⟨i0, hi0, hz0, hz1, hz2⟩ := info_parts Moves.info
  obtain ⟨o1, ho1⟩ : ∃ o : Obj, o = .cells #[.int .i64 a1, .int .i64 a2] 74 := ⟨_, rfl⟩
  obtain ⟨o2, ho2⟩ : ∃ o : Obj, o = .cells #[.int .i64 b1, .int .i64 b2] 74 := ⟨_, rfl⟩
  have p1 : K.Box ((w.alloc o1).alloc o2) w.heap.size [.int .i64 a1, .int .i64 a2] := by have h := K.Box.new w #[.int .i64 a1, .int .i64 a2] 74; rw [← ho1] at h; exact h.alloc o2
  have p2 : K.Box ((w.alloc o1).alloc o2) (w.heap.size + 1) [.int .i64 b1, .int .i64 b2] := by have h := K.Box.new (w.alloc o1) #[.int .i64 b1, .int .i64 b2] 74; rw [World.size_alloc, ← ho2] at h; exact h
  have bb : Below w.heap.size w ((w.alloc o1).alloc o2) := ((Below.refl _ _).alloc (Nat.le_refl _) o1).alloc (by simp) o2
  have e1 := K.Row.nil ((w.alloc o1).alloc o2) (w.heap.size + 1 + 1) 25 3
  subst ho1 ho2
  have HO := Lib.hid (show M.btOne r (a1, a2) (b1, b2) = M.btPart r 0 a1 b1 ++ M.btPart r 1 a2 b2 from rfl)
  generalize M.btOne r (a1, a2) (b1, b2) = RR at *
  go_enter Try.func114, Try.ntmps114
  go_wp2_with fail
  go_loopw [10, 7] (fun i o wr => ∃ (n : Nat) (B : Option Addr) (d : Nat) (L : List M.Move), Hid ((i = .int .i64 0 ∧ L = []) ∨ (i = .int .i64 1 ∧ L = M.btPart r 0 a1 b1) ∨ (i = .int .i64 2 ∧ L = RR)) ∧ Hid (L.length = n) ∧ o = .slice B n d ∧ Hid (K.Row wr (w.heap.size + 1 + 1) 25 3 B n d (L.flatMap M.moveCells)) ∧ Hid (Below w.heap.size w wr) ∧ Hid (K.Box wr w.heap.size [.int .i64 a1, .int .i64 a2]) ∧ Hid (K.Box wr (w.heap.size + 1) [.int .i64 b1, .int .i64 b2])) (fun i _ _ => 2 - (intOf i).toNat)
  case atStart => exact ⟨0, none, 0, [], Lib.hid (.inl ⟨rfl, rfl⟩), Lib.hid rfl, rfl, Lib.hid e1, Lib.hid bb, Lib.hid p1, Lib.hid p2⟩
  case round =>
    clear e1 bb p1 p2
    obtain ⟨n, B, d, L, HC, HN, rfl, HROW, HB, HP1, HP2⟩ := hrel
    rcases HC.out with ⟨rfl, hL⟩ | ⟨rfl, hL⟩ | ⟨rfl, hL⟩
    · clear HC
      have hn1 : n ≤ 1 := by rw [← HN.out, hL]; simp
      have HL := Lib.hid hL
      clear hL
      obtain ⟨u0, u1⟩ := HP1.out.c2
      obtain ⟨v0, v1⟩ := HP2.out.c2
      have g1 := HP1.out.1
      have g2 := HP2.out.1
      have sb : IntKind.i64.wrap (b1 - a1) = b1 - a1 := IntWalk.i64_in _ (by omega)
      by_cases hz : b1 - a1 = 0
      · have hne : (b1 - a1 != 0) = false := by simp [hz]
        go_wp2_with fail
        go_quiet (fail)
        go_wp2_with fail
        go_roundw
        case rel => exact ⟨n, B, d, L, Lib.hid (.inr (.inl ⟨by go_num, by rw [HL.out, M.btPart_zero hz]⟩)), HN, rfl, by first | exact Lib.hid (HROW.out.drewN _) | exact HROW, by first | exact Lib.hid (K.below_drewN HB.out _) | exact HB, by first | exact Lib.hid (HP1.out.drewN _) | exact HP1, by first | exact Lib.hid (HP2.out.drewN _) | exact HP2⟩
        case measure => simp [intOf]
      · have hne : (b1 - a1 != 0) = true := by simp [hz]
        have hj2 : n + 1 ≤ maxLen := by simp only [maxLen]; omega
        go_wp2_with fail
        go_quiet (fail)
        go_wp2_with (at_builtin; go_must (refine K.append1 rfl (.tmp 22) (.tmp 27) _ rfl (w.heap.size + 1 + 1) _ i0 _ 3 24 Try.underlying43 hi0 hz0 hz1 hz2 rfl (by omega) B n d _ rfl (by exact HROW.out.drewN _) #[.int .i64 r, .int .i64 0, .int .i64 (b1 - a1)] rfl (by simp [Value.oneCell']) (by simp [go_sem]) hj2 (by omega) (by simp; omega) ?_; intro g' c' w2 hrow1 hb1 _ _ _))
        go_roundw
        case rel => exact ⟨n + 1, some ⟨g', 0, none⟩, c', L ++ [⟨r, 0, b1 - a1⟩], Lib.hid (.inr (.inl ⟨by go_num, by rw [HL.out, M.btPart_ne hz]; rfl⟩)), Lib.hid (by rw [List.length_append, HN.out]; rfl), rfl, Lib.hid (by rw [List.flatMap_append]; simpa [M.moveCells] using hrow1), Lib.hid ((K.below_drewN HB.out _).trans (hb1.mono (by omega))), Lib.hid ((HP1.out.drewN _).low hb1 (by omega)), Lib.hid ((HP2.out.drewN _).low hb1 (by omega))⟩
        case measure => simp [intOf]
    · clear HC
      have hn1 : n ≤ 1 := by rw [← HN.out, hL]; exact M.btPart_len _ _ _ _
      have HL := Lib.hid hL
      clear hL
      obtain ⟨u0, u1⟩ := HP1.out.c2
      obtain ⟨v0, v1⟩ := HP2.out.c2
      have g1 := HP1.out.1
      have g2 := HP2.out.1
      have sb : IntKind.i64.wrap (b2 - a2) = b2 - a2 := IntWalk.i64_in _ (by omega)
      by_cases hz : b2 - a2 = 0
      · have hne : (b2 - a2 != 0) = false := by simp [hz]
        go_wp2_with fail
        go_quiet (fail)
        go_wp2_with fail
        go_roundw
        case rel => exact ⟨n, B, d, L, Lib.hid (.inr (.inr ⟨by go_num, by rw [HL.out, HO.out, M.btPart_zero hz, List.append_nil]⟩)), HN, rfl, by first | exact Lib.hid (HROW.out.drewN _) | exact HROW, by first | exact Lib.hid (K.below_drewN HB.out _) | exact HB, by first | exact Lib.hid (HP1.out.drewN _) | exact HP1, by first | exact Lib.hid (HP2.out.drewN _) | exact HP2⟩
        case measure => simp [intOf]
      · have hne : (b2 - a2 != 0) = true := by simp [hz]
        have hj2 : n + 1 ≤ maxLen := by simp only [maxLen]; omega
        go_wp2_with fail
        go_quiet (fail)
        go_wp2_with (at_builtin; go_must (refine K.append1 rfl (.tmp 22) (.tmp 27) _ rfl (w.heap.size + 1 + 1) _ i0 _ 3 24 Try.underlying43 hi0 hz0 hz1 hz2 rfl (by omega) B n d _ rfl (by exact HROW.out.drewN _) #[.int .i64 r, .int .i64 1, .int .i64 (b2 - a2)] rfl (by simp [Value.oneCell']) (by simp [go_sem]) hj2 (by omega) (by simp; omega) ?_; intro g' c' w2 hrow1 hb1 _ _ _))
        go_roundw
        case rel => exact ⟨n + 1, some ⟨g', 0, none⟩, c', L ++ [⟨r, 1, b2 - a2⟩], Lib.hid (.inr (.inr ⟨by go_num, by rw [HL.out, HO.out, M.btPart_ne hz]⟩)), Lib.hid (by rw [List.length_append, HN.out]; rfl), rfl, Lib.hid (by rw [List.flatMap_append]; simpa [M.moveCells] using hrow1), Lib.hid ((K.below_drewN HB.out _).trans (hb1.mono (by omega))), Lib.hid ((HP1.out.drewN _).low hb1 (by omega)), Lib.hid ((HP2.out.drewN _).low hb1 (by omega))⟩
        case measure => simp [intOf]
    · clear HC
      subst hL
      have hn := HN.out
      subst hn
      go_wp2_with fail
      go_ret
      exact ⟨B, d, rfl, HROW.out.more (by omega), HB.out⟩
end Go.Proofs.Ythlkdaogmcjlbaa.MoveR
