/-
  Walks: are two frames of one shape?
-/
import Derived.Test.YthlkdaogmcjlbaaFrame
import Derived.Test.YthlkdaogmcjlbaaMoveBM
import Derived.Test.YthlkdaogmcjlbaaKit5
set_option linter.unusedVariables false
namespace Go.Proofs.Ythlkdaogmcjlbaa.M
def alikeF (f g : Frame) : Bool := decide (f.upper = g.upper) && (decide (f.lower = g.lower) && decide (f.rods.length = g.rods.length))
end Go.Proofs.Ythlkdaogmcjlbaa.M
namespace Go.Proofs.Ythlkdaogmcjlbaa.MoveA
open Go.RowKit
set_option maxHeartbeats 2000000 in
theorem i_alike (f g : M.Frame) (A B : Option Addr) (c d : Nat) (w : World) (hl : f.rods.length ≤ 1048576) (hm : g.rods.length ≤ 1048576) :
    Calls Try.prog 102 #[.agg #[.int .i64 f.upper, .int .i64 f.lower, .slice A f.rods.length c], .agg #[.int .i64 g.upper, .int .i64 g.lower, .slice B g.rods.length d]] w fun e w' => e = .returned (.bool (M.alikeF f g)) ∧ Below w.heap.size w w' := by
  obtain ⟨u, lo, l⟩ := f
  obtain ⟨u2, lo2, l2⟩ := g
  have HA : Hid (M.alikeF ⟨u, lo, l⟩ ⟨u2, lo2, l2⟩ = (decide (u = u2) && (decide (lo = lo2) && decide (l.length = l2.length)))) := rfl
  generalize M.alikeF ⟨u, lo, l⟩ ⟨u2, lo2, l2⟩ = RR at *
  dsimp only at *
  generalize l.length = n at *
  generalize l2.length = m at *
  obtain ⟨o1, ho1⟩ : ∃ o : Obj, o = .cells #[.int .i64 u, .int .i64 lo, .slice A n c] 33 := ⟨_, rfl⟩
  obtain ⟨o2, ho2⟩ : ∃ o : Obj, o = .cells #[.int .i64 u2, .int .i64 lo2, .slice B m d] 33 := ⟨_, rfl⟩
  have p1 : K.Box ((w.alloc o1).alloc o2) w.heap.size [.int .i64 u, .int .i64 lo, .slice A n c] := by have h := K.Box.new w #[.int .i64 u, .int .i64 lo, .slice A n c] 33; rw [← ho1] at h; exact h.alloc o2
  have p2 : K.Box ((w.alloc o1).alloc o2) (w.heap.size + 1) [.int .i64 u2, .int .i64 lo2, .slice B m d] := by have h := K.Box.new (w.alloc o1) #[.int .i64 u2, .int .i64 lo2, .slice B m d] 33; rw [World.size_alloc, ← ho2] at h; exact h
  have bb : Below w.heap.size w ((w.alloc o1).alloc o2) := ((Below.refl _ _).alloc (Nat.le_refl _) o1).alloc (by simp) o2
  subst ho1 ho2
  obtain ⟨a0, a1, a2⟩ := p1.c3
  obtain ⟨b0, b1, b2⟩ := p2.c3
  have g1 := p1.1
  have g2 := p2.1
  clear p1 p2
  by_cases h1 : u = u2
  rotate_left
  · have t1 : (u == u2) = false := by simp [h1]
    go_enter Try.func102, Try.ntmps102
    go_wp2_with fail
    go_ret
    exact ⟨by rw [HA.out]; simp [*], bb⟩
  · subst h1
    have t1 : (u == u) = true := by simp
    by_cases h2 : lo = lo2
    rotate_left
    · have t2 : (lo == lo2) = false := by simp [h2]
      go_enter Try.func102, Try.ntmps102
      go_wp2_with fail
      go_ret
      exact ⟨by rw [HA.out]; simp [*], bb⟩
    · subst h2
      have t2 : (lo == lo) = true := by simp
      by_cases h3 : n = m
      rotate_left
      · have t3 : ((n : Int) == (m : Int)) = false := by simp; omega
        go_enter Try.func102, Try.ntmps102
        go_wp2_with fail
        go_ret
        exact ⟨by rw [HA.out]; simp [*], bb⟩
      · subst h3
        have t3 : ((n : Int) == (n : Int)) = true := by simp
        go_enter Try.func102, Try.ntmps102
        go_wp2_with fail
        go_ret
        exact ⟨by rw [HA.out]; simp [*], bb⟩
end Go.Proofs.Ythlkdaogmcjlbaa.MoveA
