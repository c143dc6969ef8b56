/-
  Walks: the text of moves as the two packages offer it.
-/
import Derived.Test.YthlkdaogmcjlbaaMoveU
set_option linter.unusedVariables false
namespace Go.Proofs.Ythlkdaogmcjlbaa.MoveX
open Go.RowKit
set_option maxHeartbeats 1000000 in
theorem i_text (A : Option Addr) (c : Nat) (l : List M.Move) (w : World) (hl : l.length ≤ 1048576) (ha : K.Rd w 3 A l.length (l.flatMap M.moveCells)) :
    Calls Try.prog 35 #[.slice A l.length c] w fun e w' => e = .returned (.tuple #[.string (M.movesText l).1, .bool (M.movesText l).2]) ∧ Below w.heap.size w w' := by
  have HS := Lib.hid (MoveF.i_good A c l w hl ha)
  cases hok : M.movesOk l with
  | false =>
    rw [hok] at HS
    rw [M.movesText_no hok]
    clear hok
    go_enter Try.func35, Try.ntmps35
    go_wp2_with fail
    refine HS.out.mono ?_
    rintro e w1 ⟨rfl, b1⟩
    go_wp2_with fail
    go_ret2
    exact ⟨rfl, b1⟩
  | true =>
    rw [hok] at HS
    rw [M.movesText_yes hok]
    obtain ⟨h60, hall⟩ := (M.movesOk_iff l).1 hok
    have HT := Lib.hid (fun w h => MoveT.i_txt A c l w h60 hall h)
    clear hok
    go_enter Try.func35, Try.ntmps35
    go_wp2_with fail
    refine HS.out.mono ?_
    rintro e w1 ⟨rfl, b1⟩
    go_wp2_with fail
    refine (HT.out _ (ha.below b1)).mono ?_
    rintro e w2 ⟨rfl, b2⟩
    go_wp2_with fail
    go_ret2
    exact ⟨rfl, b1.trans (b2.mono b1.size)⟩
set_option maxHeartbeats 1000000 in
theorem s_text (A : Option Addr) (c : Nat) (l : List M.Move) (w : World) (hl : l.length ≤ 1048576) (ha : K.Rd w 3 A l.length (l.flatMap M.moveCells)) :
    Calls Try.prog 37 #[.slice A l.length c] w fun e w' => e = .returned (.tuple #[.string (M.movesText l).1, .bool (M.movesText l).2]) ∧ Below w.heap.size w w' := by
  have HS := Lib.hid (MoveF.s_good A c l w hl ha)
  cases hok : M.movesOk l with
  | false =>
    rw [hok] at HS
    rw [M.movesText_no hok]
    clear hok
    go_enter Try.func37, Try.ntmps37
    go_wp2_with fail
    refine HS.out.mono ?_
    rintro e w1 ⟨rfl, b1⟩
    go_wp2_with fail
    go_ret2
    exact ⟨rfl, b1⟩
  | true =>
    rw [hok] at HS
    rw [M.movesText_yes hok]
    obtain ⟨h60, hall⟩ := (M.movesOk_iff l).1 hok
    have HT := Lib.hid (fun w h => MoveT.s_txt A c l w h60 hall h)
    clear hok
    go_enter Try.func37, Try.ntmps37
    go_wp2_with fail
    refine HS.out.mono ?_
    rintro e w1 ⟨rfl, b1⟩
    go_wp2_with fail
    refine (HT.out _ (ha.below b1)).mono ?_
    rintro e w2 ⟨rfl, b2⟩
    go_wp2_with fail
    go_ret2
    exact ⟨rfl, b1.trans (b2.mono b1.size)⟩
end Go.Proofs.Ythlkdaogmcjlbaa.MoveX
