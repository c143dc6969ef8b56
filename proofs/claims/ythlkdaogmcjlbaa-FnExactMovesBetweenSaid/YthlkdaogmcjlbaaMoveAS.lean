/-
  Walks: are two frames valid and of one shape? (the reference)
-/
import Derived.Test.YthlkdaogmcjlbaaMoveA
set_option linter.unusedVariables false
namespace Go.Proofs.Ythlkdaogmcjlbaa.MoveA
open Go.RowKit
set_option maxHeartbeats 2000000 in
theorem s_alike (f g : M.Frame) (A B : Option Addr) (c d : Nat) (w : World) (hl : f.rods.length ≤ 1048576) (hm : g.rods.length ≤ 1048576) (ha : K.Rd w 2 A f.rods.length (f.rods.flatMap M.rodCells)) (hb : K.Rd w 2 B g.rods.length (g.rods.flatMap M.rodCells)) :
    Calls Try.prog 100 #[.agg #[.int .i64 f.upper, .int .i64 f.lower, .slice A f.rods.length c], .agg #[.int .i64 g.upper, .int .i64 g.lower, .slice B g.rods.length d]] w fun e w' => e = .returned (.bool (f.ok && (g.ok && M.alikeF f g))) ∧ Below w.heap.size w w' := by
  have HS1 := Lib.hid (fun w h => Frame.s_good f A c w hl h)
  have HS2 := Lib.hid (fun w h => Frame.s_good g B d w hm h)
  generalize f.ok = fo at *
  generalize g.ok = go at *
  obtain ⟨u, lo, l⟩ := f
  obtain ⟨u2, lo2, l2⟩ := g
  have HA : Hid (M.alikeF ⟨u, lo, l⟩ ⟨u2, lo2, l2⟩ = (decide (u = u2) && (decide (lo = lo2) && decide (l.length = l2.length)))) := Lib.hid rfl
  generalize M.alikeF ⟨u, lo, l⟩ ⟨u2, lo2, l2⟩ = RR at *
  dsimp only at *
  generalize l.flatMap M.rodCells = lc at *
  generalize l2.flatMap M.rodCells = lc2 at *
  generalize l.length = n at *
  generalize l2.length = m at *
  obtain ⟨o1, ho1⟩ : ∃ o : Obj, o = .cells #[.int .i64 u, .int .i64 lo, .slice A n c] 33 := ⟨_, rfl⟩
  obtain ⟨o2, ho2⟩ : ∃ o : Obj, o = .cells #[.int .i64 u2, .int .i64 lo2, .slice B m d] 33 := ⟨_, rfl⟩
  have p1 : K.Box ((w.alloc o1).alloc o2) w.heap.size [.int .i64 u, .int .i64 lo, .slice A n c] := by have h := K.Box.new w #[.int .i64 u, .int .i64 lo, .slice A n c] 33; rw [← ho1] at h; exact h.alloc o2
  have p2 : K.Box ((w.alloc o1).alloc o2) (w.heap.size + 1) [.int .i64 u2, .int .i64 lo2, .slice B m d] := by have h := K.Box.new (w.alloc o1) #[.int .i64 u2, .int .i64 lo2, .slice B m d] 33; rw [World.size_alloc, ← ho2] at h; exact h
  have bb : Below w.heap.size w ((w.alloc o1).alloc o2) := ((Below.refl _ _).alloc (Nat.le_refl _) o1).alloc (by simp) o2
  have r1 := (ha.alloc o1).alloc o2
  have r2 := (hb.alloc o1).alloc o2
  clear ha hb
  subst ho1 ho2
  go_enter Try.func100, Try.ntmps100
  obtain ⟨a0, a1, a2⟩ := p1.c3
  obtain ⟨b0, b1, b2⟩ := p2.c3
  have g1 := p1.1
  have g2 := p2.1
  go_wp2_with fail
  refine (HS1.out _ r1).mono ?_
  rintro e w1 ⟨rfl, q1⟩
  clear a0 a1 a2 b0 b1 b2 g1 g2
  replace p1 := p1.below q1
  replace p2 := p2.below q1
  replace r1 := r1.below q1
  replace r2 := r2.below q1
  replace bb := bb.trans (q1.mono bb.size)
  clear q1
  cases fo with
  | false =>
    obtain ⟨a0, a1, a2⟩ := p1.c3
    obtain ⟨b0, b1, b2⟩ := p2.c3
    have g1 := p1.1
    have g2 := p2.1
    go_wp2_with fail
    go_ret
    exact ⟨rfl, bb⟩
  | true =>
    obtain ⟨a0, a1, a2⟩ := p1.c3
    obtain ⟨b0, b1, b2⟩ := p2.c3
    have g1 := p1.1
    have g2 := p2.1
    go_wp2_with fail
    refine (HS2.out _ r2).mono ?_
    rintro e w2 ⟨rfl, q2⟩
    clear a0 a1 a2 b0 b1 b2 g1 g2
    replace p1 := p1.below q2
    replace p2 := p2.below q2
    replace r1 := r1.below q2
    replace r2 := r2.below q2
    replace bb := bb.trans (q2.mono bb.size)
    clear q2
    cases go with
    | false =>
      obtain ⟨a0, a1, a2⟩ := p1.c3
      obtain ⟨b0, b1, b2⟩ := p2.c3
      have g1 := p1.1
      have g2 := p2.1
      go_wp2_with fail
      go_ret
      exact ⟨rfl, bb⟩
    | true =>
      by_cases h1 : u = u2
      rotate_left
      · have t1 : (u == u2) = false := by simp [h1]
        obtain ⟨a0, a1, a2⟩ := p1.c3
        obtain ⟨b0, b1, b2⟩ := p2.c3
        have g1 := p1.1
        have g2 := p2.1
        go_wp2_with fail
        go_ret
        exact ⟨by rw [HA.out]; simp [*], bb⟩
      · subst h1
        have t1 : (u == u) = true := by simp
        by_cases h2 : lo = lo2
        rotate_left
        · have t2 : (lo == lo2) = false := by simp [h2]
          obtain ⟨a0, a1, a2⟩ := p1.c3
          obtain ⟨b0, b1, b2⟩ := p2.c3
          have g1 := p1.1
          have g2 := p2.1
          go_wp2_with fail
          go_ret
          exact ⟨by rw [HA.out]; simp [*], bb⟩
        · subst h2
          have t2 : (lo == lo) = true := by simp
          by_cases h3 : n = m
          rotate_left
          · have t3 : ((n : Int) == (m : Int)) = false := by simp; omega
            obtain ⟨a0, a1, a2⟩ := p1.c3
            obtain ⟨b0, b1, b2⟩ := p2.c3
            have g1 := p1.1
            have g2 := p2.1
            go_wp2_with fail
            go_ret
            exact ⟨by rw [HA.out]; simp [*], bb⟩
          · subst h3
            have t3 : ((n : Int) == (n : Int)) = true := by simp
            obtain ⟨a0, a1, a2⟩ := p1.c3
            obtain ⟨b0, b1, b2⟩ := p2.c3
            have g1 := p1.1
            have g2 := p2.1
            go_wp2_with fail
            go_ret
            exact ⟨by rw [HA.out]; simp [*], bb⟩
end Go.Proofs.Ythlkdaogmcjlbaa.MoveA
