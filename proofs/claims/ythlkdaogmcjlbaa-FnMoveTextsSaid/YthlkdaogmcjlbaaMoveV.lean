/-
  Walks: the law file's helpers on moves of beads (printed by gen_mlaw.py).
-/
import Derived.Test.YthlkdaogmcjlbaaBase
import Derived.Test.YthlkdaogmcjlbaaMoves
set_option linter.unusedVariables false
namespace Go.Proofs.Ythlkdaogmcjlbaa.MoveV
open Go.RowKit
theorem vbig (A : Option Addr) (n c : Nat) (w : World) : Calls Try.prog 33 #[.slice A n c] w fun e w' => e = .returned (.bool (decide (65536 < n))) ∧ w = w' := by
  go_enter Try.func33, Try.ntmps33
  go_wp2
  go_ret
  exact ⟨K.ret_bool (by rw [decide_eq_decide]; omega), rfl⟩
set_option maxHeartbeats 1000000 in
theorem vmoves (A B : Option Addr) (c d : Nat) (l : List M.Move) (w : World) (hl : l.length ≤ 1048576) (ha : K.Rd w 3 A l.length (l.flatMap M.moveCells)) (hb : K.Rd w 3 B l.length (l.flatMap M.moveCells)) :
    Calls Try.prog 38 #[.slice A l.length c, .slice B l.length d] w fun e w' => e = .returned (.bool true) ∧ Below w.heap.size w w' := by
  have hne : ((l.length : Int) != (l.length : Int)) = false := by simp
  go_enter Try.func38, Try.ntmps38
  go_wp2_with fail
  go_loopw [5] (fun i wr => ∃ k : Nat, k ≤ l.length ∧ i = .int .i64 k ∧ K.Qt w wr) (fun i _ => l.length - (intOf i).toNat)
  case atStart => exact ⟨0, Nat.zero_le _, rfl, K.Qt.refl _⟩
  case round =>
    obtain ⟨k, hk, rfl, hq⟩ := hrel
    by_cases hlt : k < l.length
    · obtain ⟨g, o, rfl, _, a0, a1, a2⟩ := (hq.rd ha).move hlt
      obtain ⟨g', o', rfl, _, b0, b1, b2⟩ := (hq.rd hb).move hlt
      have h1 : (k : Int) < (l.length : Int) := by omega
      have h2 : (0 : Int) ≤ (k : Int) := by omega
      generalize l[k].rod = v0 at *
      generalize l[k].part = v1 at *
      generalize l[k].by_ = v2 at *
      go_wp2_with fail
      go_quiet (fail)
      go_wp2
      go_roundw
      case rel => exact ⟨k + 1, by omega, by go_num, hq.then_ _⟩
      case measure => simp [intOf]; omega
    · go_wp2
      go_ret
      exact ⟨rfl, hq.below _⟩
end Go.Proofs.Ythlkdaogmcjlbaa.MoveV
