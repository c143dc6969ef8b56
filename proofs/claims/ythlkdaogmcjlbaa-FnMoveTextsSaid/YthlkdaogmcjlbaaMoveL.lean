/-
  Walks: undoing moves.
-/
import Derived.Test.YthlkdaogmcjlbaaMoveN
import Derived.Test.YthlkdaogmcjlbaaMoves
set_option linter.unusedVariables false
namespace Go.Proofs.Ythlkdaogmcjlbaa.M
def Move.neg (m : Move) : Move := ⟨m.rod, m.part, -m.by_⟩
def undo (l : List Move) : List Move := l.reverse.map Move.neg
theorem undo_len (l : List Move) : (undo l).length = l.length := by simp [undo]
theorem undo_at (l : List Move) (j : Nat) (h : j < (undo l).length) (h' : l.length - 1 - j < l.length) : (undo l)[j] = l[l.length - 1 - j].neg := by
  simp [undo]
theorem undo_take (l : List Move) (j : Nat) (h : j < l.length) : (undo l).take (j + 1) = (undo l).take j ++ [l[l.length - 1 - j].neg] := by
  rw [List.take_succ_eq_append_getElem (by rw [undo_len]; exact h), undo_at _ _ _ (by omega)]
def undone (l : List Move) : List Move × Bool := if movesOk l = true then (undo l, true) else ([], false)
theorem undone_yes {l : List Move} (h : movesOk l = true) : undone l = (undo l, true) := by simp [undone, h]
theorem undone_no {l : List Move} (h : movesOk l = false) : undone l = ([], false) := by simp [undone, h]
theorem undone_le (l : List Move) : (undone l).1.length ≤ 60 := by
  unfold undone; split
  · rename_i h; rw [undo_len]; exact ((movesOk_iff l).1 h).1
  · simp
end Go.Proofs.Ythlkdaogmcjlbaa.M
namespace Go.Proofs.Ythlkdaogmcjlbaa.MoveL
open Go.RowKit
set_option maxHeartbeats 2000000 in
theorem i_undo (A : Option Addr) (c : Nat) (l : List M.Move) (w : World) (hl : l.length ≤ 1048576) (ha : K.Rd w 3 A l.length (l.flatMap M.moveCells)) :
    Calls Try.prog 53 #[.slice A l.length c] w (K.RetRowB w 25 3 (M.undone l).1.length ((M.undone l).1.flatMap M.moveCells) (M.undone l).2) := by
  obtain ⟨i0, hi0, hz0, hz1, hz2⟩ := info_parts Moves.info
  have HS := Lib.hid (MoveF.i_good A c l w hl ha)
  cases hok : M.movesOk l with
  | false =>
    rw [hok] at HS
    rw [M.undone_no hok]
    clear hok
    go_enter Try.func53, Try.ntmps53
    go_wp2_with fail
    refine HS.out.mono ?_
    rintro e w1 ⟨rfl, b1⟩
    go_wp2_with fail
    go_ret2
    exact ⟨none, 0, rfl, K.Row.nil _ _ _ _, b1⟩
  | true =>
    rw [hok] at HS
    rw [M.undone_yes hok]
    have h60 : l.length ≤ 60 := ((M.movesOk_iff l).1 hok).1
    have hm := fun k hk => (M.movesOk_at hok (k := k) hk).2.2.1
    clear hok
    rw [M.undo_len]
    go_enter Try.func53, Try.ntmps53
    go_wp2_with fail
    refine HS.out.mono ?_
    rintro e w1 ⟨rfl, b1⟩
    have e1 := K.Row.nil w1 w.heap.size 25 3
    skip
    skip
    go_wp2_with fail
    go_loopw [5, 4] (fun i o wr => ∃ (n j : Nat) (B : Option Addr) (d : Nat), n + j = l.length ∧ i = .int .i64 ((n : Int) - 1) ∧ o = .slice B j d ∧ K.Row wr w.heap.size 25 3 B j d (((M.undo l).take j).flatMap M.moveCells) ∧ Below w.heap.size w wr) (fun i _ _ => (intOf i + 1).toNat)
    case atStart => exact ⟨l.length, 0, none, 0, by simp, rfl, rfl, e1, b1⟩
    case round =>
      obtain ⟨n, j, B, d, hnj, rfl, rfl, hrow, hb⟩ := hrel
      cases n with
      | succ k =>
        have hk := Lib.hid (show k = l.length - 1 - j by omega)
        have hkl : k < l.length := by omega
        have hlt : j < l.length := by omega
        obtain ⟨g, o, rfl, hg, c0, c1, c2⟩ := (ha.below hb).move hkl
        rw [show ((k + 1 : Nat) : Int) - 1 = k by omega]
        have h2 : (0 : Int) ≤ (k : Int) := by omega
        have h1 : (k : Int) < (l.length : Int) := by omega
        have HU := Lib.hid (M.undo_take l j hlt)
        have hmk := hm k hkl
        have HNE : Hid (l[k].neg = ⟨l[k].rod, l[k].part, -l[k].by_⟩) := rfl
        have HUU := Lib.hid (show (M.undo l).take (j + 1) = (M.undo l).take j ++ [⟨l[k].rod, l[k].part, -l[k].by_⟩] by rw [HU.out, ← HNE.out]; simp only [hk.out])
        clear HU HNE hm
        obtain ⟨z1, z2⟩ := hmk
        generalize l[k].rod = x at *
        generalize l[k].part = y at *
        generalize l[k].by_ = z at *
        generalize (M.undo l).take j = L at *
        have hbs := hb.size
        have HROW := Lib.hid hrow
        have HB := Lib.hid hb
        have hlt' := hrow.lt
        clear hrow hb
        have r1 := Lib.hid (HROW.out.alloc (.cells #[.int .i64 x, .int .i64 y, .int .i64 (-z)] 25))
        have q1 := Lib.hid (HB.out.alloc hbs (.cells #[.int .i64 x, .int .i64 y, .int .i64 (-z)] 25))
        clear hlt'
        have hj2 : j + 1 ≤ maxLen := by simp only [maxLen]; omega
        go_wp2_with (at_builtin; refine K.append1 rfl (.tmp 25) (.tmp 27) _ rfl w.heap.size _ i0 _ 3 24 Try.underlying43 hi0 hz0 hz1 hz2 rfl (by omega) B j d _ rfl r1.out #[.int .i64 x, .int .i64 y, .int .i64 (-z)] rfl (by simp [Value.oneCell']) (by simp [go_sem]) hj2 (by omega) q1.out.size ?_; intro g' c' w2 hrow1 hb1 _ _ _)
        go_roundw
        case rel => exact ⟨k, j + 1, some ⟨g', 0, none⟩, c', by omega, by first | rfl | (congr 1; omega) | (simp; omega), by first | rfl | go_num, by rw [HUU.out, List.flatMap_append]; simpa [M.moveCells] using hrow1, q1.out.trans hb1⟩
        case measure => simp [intOf]
      | zero =>
        obtain rfl : j = l.length := by omega
        rw [List.take_of_length_le (by rw [M.undo_len]; exact Nat.le_refl _)] at hrow
        go_wp2_with fail
        go_ret2
        exact ⟨B, d, rfl, hrow, hb⟩
set_option maxHeartbeats 2000000 in
theorem s_undo (A : Option Addr) (c : Nat) (l : List M.Move) (w : World) (hl : l.length ≤ 1048576) (ha : K.Rd w 3 A l.length (l.flatMap M.moveCells)) :
    Calls Try.prog 52 #[.slice A l.length c] w (K.RetRowB w 25 3 (M.undone l).1.length ((M.undone l).1.flatMap M.moveCells) (M.undone l).2) := by
  obtain ⟨i0, hi0, hz0, hz1, hz2⟩ := info_parts Moves.info
  have e0 : K.Row (w.alloc (.cells #[] 25)) w.heap.size 25 3 (some ⟨w.heap.size, 0, none⟩) 0 0 [] := World.ownsRow_made w #[] 0 (Nat.le_refl _) (Nat.zero_le _) rfl
  have b0 : Below w.heap.size w (w.alloc (.cells #[] 25)) := (Below.refl _ _).alloc (Nat.le_refl _) _
  have HS := Lib.hid (MoveF.s_good A c l _ hl (ha.below b0))
  cases hok : M.movesOk l with
  | false =>
    rw [hok] at HS
    rw [M.undone_no hok]
    clear hok
    go_enter Try.func52, Try.ntmps52
    go_wp2_with fail
    refine HS.out.mono ?_
    rintro e w1 ⟨rfl, b1⟩
    go_wp2_with fail
    go_ret2
    exact ⟨some ⟨w.heap.size, 0, none⟩, 0, rfl, e0.below b1, b0.trans (b1.mono b0.size)⟩
  | true =>
    rw [hok] at HS
    rw [M.undone_yes hok]
    have h60 : l.length ≤ 60 := ((M.movesOk_iff l).1 hok).1
    have hm := fun k hk => (M.movesOk_at hok (k := k) hk).2.2.1
    clear hok
    rw [M.undo_len]
    go_enter Try.func52, Try.ntmps52
    go_wp2_with fail
    refine HS.out.mono ?_
    rintro e w1 ⟨rfl, b1⟩
    have e1 := e0.below b1
    replace b1 := b0.trans (b1.mono b0.size)
    clear e0 b0
    go_wp2_with fail
    go_loopw [5, 4] (fun i o wr => ∃ (n j : Nat) (B : Option Addr) (d : Nat), n + j = l.length ∧ i = .int .i64 ((n : Int) - 1) ∧ o = .slice B j d ∧ K.Row wr w.heap.size 25 3 B j d (((M.undo l).take j).flatMap M.moveCells) ∧ Below w.heap.size w wr) (fun i _ _ => (intOf i + 1).toNat)
    case atStart => exact ⟨l.length, 0, some ⟨w.heap.size, 0, none⟩, 0, by simp, rfl, rfl, e1, b1⟩
    case round =>
      obtain ⟨n, j, B, d, hnj, rfl, rfl, hrow, hb⟩ := hrel
      cases n with
      | succ k =>
        have hk := Lib.hid (show k = l.length - 1 - j by omega)
        have hkl : k < l.length := by omega
        have hlt : j < l.length := by omega
        obtain ⟨g, o, rfl, hg, c0, c1, c2⟩ := (ha.below hb).move hkl
        rw [show ((k + 1 : Nat) : Int) - 1 = k by omega]
        have h2 : (0 : Int) ≤ (k : Int) := by omega
        have h1 : (k : Int) < (l.length : Int) := by omega
        have HU := Lib.hid (M.undo_take l j hlt)
        have hmk := hm k hkl
        have HNE : Hid (l[k].neg = ⟨l[k].rod, l[k].part, -l[k].by_⟩) := rfl
        have HUU := Lib.hid (show (M.undo l).take (j + 1) = (M.undo l).take j ++ [⟨l[k].rod, l[k].part, -l[k].by_⟩] by rw [HU.out, ← HNE.out]; simp only [hk.out])
        clear HU HNE hm
        obtain ⟨z1, z2⟩ := hmk
        generalize l[k].rod = x at *
        generalize l[k].part = y at *
        generalize l[k].by_ = z at *
        generalize (M.undo l).take j = L at *
        have hbs := hb.size
        have HROW := Lib.hid hrow
        have HB := Lib.hid hb
        have hlt' := hrow.lt
        clear hrow hb
        have r1 := Lib.hid (HROW.out.alloc (.cells #[.int .i64 x, .int .i64 y, .int .i64 z] 25))
        have q1 := Lib.hid (HB.out.alloc hbs (.cells #[.int .i64 x, .int .i64 y, .int .i64 z] 25))
        clear hlt'
        have hj2 : j + 1 ≤ maxLen := by simp only [maxLen]; omega
        go_wp2_with (at_builtin; refine K.append1 rfl (.tmp 23) (.tmp 32) _ rfl w.heap.size _ i0 _ 3 24 Try.underlying43 hi0 hz0 hz1 hz2 rfl (by omega) B j d _ rfl r1.out #[.int .i64 x, .int .i64 y, .int .i64 (-z)] rfl (by simp [Value.oneCell']) (by simp [go_sem]) hj2 (by omega) q1.out.size ?_; intro g' c' w2 hrow1 hb1 _ _ _)
        go_roundw
        case rel => exact ⟨k, j + 1, some ⟨g', 0, none⟩, c', by omega, by first | rfl | (congr 1; omega) | (simp; omega), by first | rfl | go_num, by rw [HUU.out, List.flatMap_append]; simpa [M.moveCells] using hrow1, q1.out.trans hb1⟩
        case measure => simp [intOf]
      | zero =>
        obtain rfl : j = l.length := by omega
        rw [List.take_of_length_le (by rw [M.undo_len]; exact Nat.le_refl _)] at hrow
        go_wp2_with fail
        go_ret2
        exact ⟨B, d, rfl, hrow, hb⟩
end Go.Proofs.Ythlkdaogmcjlbaa.MoveL
