/-
  Walks: the plain board with a value.
-/
import Derived.Test.YtmgegacgjppdbaaBoardM
import Derived.Test.YtmgegacgjppdbaaBoardH
import Derived.Test.YtmgegacgjppdbaaPower
import Derived.Test.YtmgegacgjppdbaaKit4
set_option linter.unusedVariables false
namespace Go.Proofs.Ytmgegacgjppdbaa.BoardH
open Go.RowKit
/-- a call that returns a board of its own and a bool. -/
def RetBoardB (w : World) (l k : List Int) (b : Bool) (e : Ending) (w' : World) : Prop :=
  ∃ A c B d, e = .returned (.tuple #[.agg #[.slice A l.length c, .slice B k.length d], .bool b]) ∧ K.Row w' w.heap.size 3 1 A l.length c (l.map (Value.int .i64)) ∧ K.Row w' w.heap.size 3 1 B k.length d (k.map (Value.int .i64)) ∧ (∀ g, K.blk A = some g → K.blk B ≠ some g) ∧ Below w.heap.size w w'
end Go.Proofs.Ytmgegacgjppdbaa.BoardH
namespace Go.Proofs.Ytmgegacgjppdbaa.BoardS
open Go.RowKit
/-- a board in the making: its box lies at w.heap.size + 1, the result's at w.heap.size. -/
structure Fill2 (w wr : World) (B : Option Addr) (d : Nat) (xs : List Int) (C : Option Addr) (e : Nat) (ys : List Int) : Prop where
  row1 : K.Row wr (w.heap.size + 1 + 1) 3 1 B xs.length d (xs.map (Value.int .i64))
  row2 : K.Row wr (w.heap.size + 1 + 1) 3 1 C ys.length e (ys.map (Value.int .i64))
  ap : ∀ g, K.blk B = some g → K.blk C ≠ some g
  box : K.Own wr (w.heap.size + 1) [.slice B xs.length d, .slice C ys.length e]
  res : K.Own wr w.heap.size [.slice none 0 0, .slice none 0 0]
  bel : Below w.heap.size w wr
theorem Fill2.start (w : World) (t : TypeId) : Fill2 w ((w.alloc (.cells #[.slice none 0 0, .slice none 0 0] t)).alloc (.cells #[.slice none 0 0, .slice none 0 0] t)) none 0 [] none 0 [] :=
  ⟨K.Row.nil _ _ _ _, K.Row.nil _ _ _ _, fun g h => by simp [K.blk] at h, by have h := K.Own.new (w.alloc (.cells #[.slice none 0 0, .slice none 0 0] t)) #[.slice none 0 0, .slice none 0 0] t; rw [World.size_alloc] at h; exact h, (K.Own.new w #[.slice none 0 0, .slice none 0 0] t).alloc _, by (repeat (first | exact Below.refl _ _ | assumption | (refine K.below_drewN ?_ _) | (refine Below.drew ?_) | (refine Below.alloc ?_ (by first | (simp; done) | (simp; omega) | omega) _) | (refine Below.setCell ?_ (by first | (simp; done) | (simp; omega) | omega) _)))⟩
section
variable {w wr w2 : World} {B C : Option Addr} {d e : Nat} {xs ys : List Int}
theorem Fill2.low (F : Fill2 w wr B d xs C e ys) (hb : Below (w.heap.size + 1 + 1) wr w2) : K.Own w2 (w.heap.size + 1) [.slice B xs.length d, .slice C ys.length e] ∧ K.Own w2 w.heap.size [.slice none 0 0, .slice none 0 0] :=
  ⟨F.box.low hb (by omega), F.res.low hb (by omega)⟩
theorem Fill2.left (F : Fill2 w wr B d xs C e ys) {x : Int} {g c' : Nat} (hr : K.Row w2 (w.heap.size + 1 + 1) 3 1 (some ⟨g, 0, none⟩) (xs.length + 1) c' (xs.map (Value.int .i64) ++ [.int .i64 x])) (hb : Below (w.heap.size + 1 + 1) wr w2) (hg : wr.grownBy w2 (K.blk B)) (hat : K.blk B = some g ∨ wr.heap.size ≤ g) :
    Fill2 w (w2.setCell ⟨w.heap.size + 1, 0, none⟩ (.slice (some ⟨g, 0, none⟩) (xs.length + 1) c')) (some ⟨g, 0, none⟩) c' (xs ++ [x]) C e ys := by
  have h2 := F.row2.kept hg (fun q hq e => F.ap q e hq)
  have hC := F.row2.lt
  refine ⟨?_, h2.setOther (by simp) _, ?_, ?_, ?_, ?_⟩
  · rw [List.map_append, List.length_append]; exact hr.setOther (by simp) _
  · intro q hq hq'
    simp [K.blk] at hq
    subst hq
    rcases hat with h | h
    · exact F.ap _ h hq'
    · have := hC _ hq'; omega
  · have h := (F.low hb).1.set_ 0 (by simp) (.slice (some ⟨g, 0, none⟩) (xs.length + 1) c')
    rw [List.length_append]; exact h
  · exact (F.low hb).2.setOther (by simp) _
  · exact (F.bel.trans (hb.mono (by omega))).setCell (by simp) _
theorem Fill2.right (F : Fill2 w wr B d xs C e ys) {y : Int} {g c' : Nat} (hr : K.Row w2 (w.heap.size + 1 + 1) 3 1 (some ⟨g, 0, none⟩) (ys.length + 1) c' (ys.map (Value.int .i64) ++ [.int .i64 y])) (hb : Below (w.heap.size + 1 + 1) wr w2) (hg : wr.grownBy w2 (K.blk C)) (hat : K.blk C = some g ∨ wr.heap.size ≤ g) :
    Fill2 w (w2.setCell ⟨w.heap.size + 1, 1, none⟩ (.slice (some ⟨g, 0, none⟩) (ys.length + 1) c')) B d xs (some ⟨g, 0, none⟩) c' (ys ++ [y]) := by
  have h1 := F.row1.kept hg (fun q hq e => F.ap q hq e)
  have hB := F.row1.lt
  refine ⟨h1.setOther (by simp) _, ?_, ?_, ?_, ?_, ?_⟩
  · rw [List.map_append, List.length_append]; exact hr.setOther (by simp) _
  · intro q hq hq'
    simp [K.blk] at hq'
    subst hq'
    rcases hat with h | h
    · exact F.ap _ hq h
    · have := hB _ hq; omega
  · have h := (F.low hb).1.set_ 1 (by simp) (.slice (some ⟨g, 0, none⟩) (ys.length + 1) c')
    rw [List.length_append]; exact h
  · exact (F.low hb).2.setOther (by simp) _
  · exact (F.bel.trans (hb.mono (by omega))).setCell (by simp) _
theorem Fill2.size (F : Fill2 w wr B d xs C e ys) : w.heap.size + 1 + 1 ≤ wr.heap.size := F.box.1.1
end
set_option maxHeartbeats 2000000 in
theorem i_set (lines n : Int) (w : World) (hn : n ≤ 9223372036854775807) :
    Calls Try.prog 22 #[.int .i64 lines, .int .i64 n] w (BoardH.RetBoardB w (M.setB lines n).1.1 (M.setB lines n).1.2 (M.setB lines n).2) := by
  obtain ⟨i0, hi0, hz0, hz1, hz2⟩ := info_parts SlInt.info
  by_cases hl : 1 ≤ lines ∧ lines ≤ 6
  case' neg =>
    rw [M.setB_no (fun h => hl (M.inR_iff.1 h.1))]
    go_enter Try.func22, Try.ntmps22
    go_wp2_with fail
    refine (Base.i_within_no _ _ _ _ (by omega)).mono ?_
    rintro e w1 ⟨rfl, rfl⟩
    go_wp2_with fail
    exact bodyPost_ret (v := .tuple #[.agg #[.slice none 0 0, .slice none 0 0], .bool false]) (by simp [results, Try.results22, go_sem]) rfl ⟨none, 0, none, 0, rfl, K.Row.nil _ _ _ _, K.Row.nil _ _ _ _, fun g h => by simp [K.blk] at h, by (repeat (first | exact Below.refl _ _ | assumption | (refine K.below_drewN ?_ _) | (refine Below.drew ?_) | (refine Below.alloc ?_ (by first | (simp; done) | (simp; omega) | omega) _) | (refine Below.setCell ?_ (by first | (simp; done) | (simp; omega) | omega) _)))⟩
  case' pos =>
    obtain ⟨m, rfl⟩ := Int.eq_ofNat_of_zero_le (show 0 ≤ lines by omega)
    have hm1 : 1 ≤ m := by omega
    have hm6 : m ≤ 6 := by omega
    obtain ⟨p1, p2⟩ := M.pw_le (n := m) (by omega)
    have HP := Lib.hid (fun w => Pow.i_power m m w rfl (by omega))
    by_cases hR : 0 ≤ n ∧ n < 10 ^ m
    case' neg =>
      rw [M.setB_no (fun h => hR ⟨h.2.1, by simpa using h.2.2⟩)]
      generalize (10 : Int) ^ m = p at *
      go_enter Try.func22, Try.ntmps22
      go_wp2_with fail
      refine (Base.i_within_yes _ _ _ _ (by omega) (by omega)).mono ?_
      rintro e w1 ⟨rfl, rfl⟩
      go_wp2_with fail
      refine (HP.out _).mono ?_
      rintro e w1 ⟨rfl, rfl⟩
      go_wp2_with fail
      refine (Base.i_within_no _ _ _ _ (by omega)).mono ?_
      rintro e w1 ⟨rfl, rfl⟩
      go_wp2_with fail
      exact bodyPost_ret (v := .tuple #[.agg #[.slice none 0 0, .slice none 0 0], .bool false]) (by simp [results, Try.results22, go_sem]) rfl ⟨none, 0, none, 0, rfl, K.Row.nil _ _ _ _, K.Row.nil _ _ _ _, fun g h => by simp [K.blk] at h, by (repeat (first | exact Below.refl _ _ | assumption | (refine K.below_drewN ?_ _) | (refine Below.drew ?_) | (refine Below.alloc ?_ (by first | (simp; done) | (simp; omega) | omega) _) | (refine Below.setCell ?_ (by first | (simp; done) | (simp; omega) | omega) _)))⟩
    case' pos =>
      obtain ⟨hR1, hR2⟩ := hR
      rw [M.setB_yes hm1 hm6 hR1 hR2]
      have HLn := Lib.hid (M.bL_len m n)
      have HSn := Lib.hid (M.bS_len m n)
      have HL : ∃ P, P = M.bL m n := ⟨_, rfl⟩
      obtain ⟨P, hP⟩ := HL
      have HQ : ∃ Q, Q = M.bS m n := ⟨_, rfl⟩
      obtain ⟨Q, hQ⟩ := HQ
      rw [← hP, ← hQ]
      have HP1 := Lib.hid hP
      have HQ1 := Lib.hid hQ
      clear hP hQ
      generalize (10 : Int) ^ m = p at *
      have hF := Lib.hid (Fill2.start w 27)
      go_enter Try.func22, Try.ntmps22
      go_wp2_with fail
      refine (Base.i_within_yes _ _ _ _ (by omega) (by omega)).mono ?_
      rintro e w1 ⟨rfl, rfl⟩
      go_wp2_with fail
      refine (HP.out _).mono ?_
      rintro e w1 ⟨rfl, rfl⟩
      go_wp2_with fail
      refine (Base.i_within_yes _ _ _ _ (by omega) (by omega)).mono ?_
      rintro e w1 ⟨rfl, rfl⟩
      go_wp2_with fail
      go_loopw [7, 1] (fun i u wr => ∃ (j : Nat) (x : Int) (xs ys : List Int) (B C : Option Addr) (d e : Nat), j ≤ m ∧ i = .int .i64 j ∧ u = .int .i64 x ∧ (0 ≤ x ∧ x ≤ 9223372036854775807) ∧ Hid (xs.length = j ∧ ys.length = j) ∧ Hid (xs ++ M.bL (m - j) x = P) ∧ Hid (ys ++ M.bS (m - j) x = Q) ∧ Fill2 w wr B d xs C e ys) (fun i _ _ => m - (intOf i).toNat)
      case atStart => exact ⟨0, n, [], [], none, none, 0, 0, by omega, rfl, rfl, ⟨hR1, hn⟩, Lib.hid ⟨rfl, rfl⟩, Lib.hid HP1.out.symm, Lib.hid HQ1.out.symm, hF.out⟩
      case round =>
        obtain ⟨j, x, xs, ys, B, C, d, e, hj, rfl, rfl, ⟨hx0, hx1⟩, hlen, hL, hS, F⟩ := hrel
        clear hF
        have hz := F.size
        obtain ⟨c0, c1, f0, f1, _⟩ := F.box.c2
        obtain ⟨z0, z1, y0, y1, _⟩ := F.res.c2
        have HF := Lib.hid F
        clear F
        by_cases hlt : j < m
        · have hlt' : (j : Int) < (m : Int) := by omega
          have HXL := Lib.hid (show (xs ++ [x % 5]) ++ M.bL (m - (j + 1)) (x / 10) = P by rw [← hL.out, M.bL_step m j hlt]; simp)
          have HXS := Lib.hid (show (ys ++ [x % 10 / 5]) ++ M.bS (m - (j + 1)) (x / 10) = Q by rw [← hS.out, M.bS_step m j hlt, show x % 10 / 5 = x / 5 % 2 by omega]; simp)
          have hk1 : xs.length + 1 ≤ 6 := by rw [hlen.out.1]; omega
          have hk2 : ys.length + 1 ≤ 6 := by rw [hlen.out.2]; omega
          have hm1' : xs.length + 1 ≤ maxLen := by simp only [maxLen]; omega
          have hm2' : ys.length + 1 ≤ maxLen := by simp only [maxLen]; omega
          clear hL hS HP
          go_wp2_with (first
            | (at_builtin; refine K.append1 rfl (.tmp 26) (.tmp 30) _ rfl (w.heap.size + 1 + 1) _ i0 _ 1 8 Try.underlying22 hi0 hz0 hz1 hz2 rfl (by omega) B xs.length d _ rfl HF.out.row1 #[.int .i64 (x % 5)] rfl (by simp [Value.oneCell']) (by simp [go_sem]) hm1' (by omega) hz ?_; intro g1 c1' w2 hrow1 hb1 _ hat1 hgr1; have HF2 := Lib.hid (HF.out.left hrow1 hb1 hgr1 hat1); obtain ⟨a0, a1, e0, e1, _⟩ := (HF.out.low hb1).1.c2; obtain ⟨a2, a3, e2, e3, _⟩ := (HF.out.low hb1).2.c2; clear hrow1 hb1 hat1 hgr1)
            | (at_builtin; refine K.append1 rfl (.tmp 34) (.tmp 38) _ rfl (w.heap.size + 1 + 1) _ i0 _ 1 8 Try.underlying22 hi0 hz0 hz1 hz2 rfl (by omega) C ys.length e _ rfl HF2.out.row2 #[.int .i64 (x % 10 / 5)] rfl (by simp [Value.oneCell']) (by simp [go_sem]) hm2' (by omega) HF2.out.size ?_; intro g2 c2' w3 hrow2 hb2 _ hat2 hgr2; have HF3 := Lib.hid (HF2.out.right hrow2 hb2 hgr2 hat2); obtain ⟨a4, a5, e4, e5, _⟩ := (HF2.out.low hb2).1.c2; obtain ⟨a6, a7, e6, e7, _⟩ := (HF2.out.low hb2).2.c2; clear hrow2 hb2 hat2 hgr2))
          go_roundw
          case rel => exact ⟨j + 1, x / 10, xs ++ [x % 5], ys ++ [x % 10 / 5], some ⟨g1, 0, none⟩, some ⟨g2, 0, none⟩, c1', c2', by omega, by go_num, rfl, ⟨by omega, by omega⟩, Lib.hid ⟨by rw [List.length_append, hlen.out.1]; rfl, by rw [List.length_append, hlen.out.2]; rfl⟩, HXL, HXS, HF3.out⟩
          case measure => simp [intOf]; omega
        · obtain rfl : j = m := by omega
          have e1 : xs = P := by have h := hL.out; rwa [Nat.sub_self, M.bL, List.append_nil] at h
          have e2 : ys = Q := by have h := hS.out; rwa [Nat.sub_self, M.bS, List.append_nil] at h
          subst e1 e2
          go_wp2_with fail
          exact bodyPost_ret (v := .tuple #[.agg #[.slice B xs.length d, .slice C ys.length e], .bool true]) (by simp [results, Try.results22, go_sem, *]) rfl ⟨B, d, C, e, rfl, ((HF.out.row1.setOther (by simp; omega) _).setOther (by simp; omega) _).more (by omega), ((HF.out.row2.setOther (by simp; omega) _).setOther (by simp; omega) _).more (by omega), HF.out.ap, (HF.out.bel.setCell (Nat.le_refl _) _).setCell (Nat.le_refl _) _⟩
set_option maxHeartbeats 2000000 in
theorem s_l5set (m : Nat) (n : Int) (w : World) (hm1 : 1 ≤ m) (hm6 : m ≤ 6) (hn : n ≤ 9223372036854775807) :
    Calls Try.prog 61 #[.int .i64 m, .int .i64 n] w (BoardH.RetBoardB w (M.setB m n).1.1 (M.setB m n).1.2 (M.setB m n).2) := by
  obtain ⟨i0, hi0, hz0, hz1, hz2⟩ := info_parts SlInt.info
  by_cases hneg : n < 0
  · rw [M.setB_no (fun h => by omega)]
    go_enter Try.func61, Try.ntmps61
    go_wp2_with fail
    exact bodyPost_ret (v := .tuple #[.agg #[.slice none 0 0, .slice none 0 0], .bool false]) (by simp [results, Try.results61, go_sem]) rfl ⟨none, 0, none, 0, rfl, K.Row.nil _ _ _ _, K.Row.nil _ _ _ _, fun g h => by simp [K.blk] at h, by (repeat (first | exact Below.refl _ _ | assumption | (refine K.below_drewN ?_ _) | (refine Below.drew ?_) | (refine Below.alloc ?_ (by first | (simp; done) | (simp; omega) | omega) _) | (refine Below.setCell ?_ (by first | (simp; done) | (simp; omega) | omega) _)))⟩
  · have h0 : 0 ≤ n := by omega
    have HY := Lib.hid (fun h : n < 10 ^ m => M.setB_yes hm1 hm6 h0 h)
    have HN := Lib.hid (fun h : 10 ^ m ≤ n => show M.setB m n = (([], []), false) from M.setB_no (fun h' => by have := h'.2.2; simp at this; omega))
    have HD := Lib.hid (M.div10_pos n m)
    have HLn := Lib.hid (M.bL_len m n)
    have HSn := Lib.hid (M.bS_len m n)
    obtain ⟨P, hP⟩ : ∃ P, P = M.bL m n := ⟨_, rfl⟩
    obtain ⟨Q, hQ⟩ : ∃ Q, Q = M.bS m n := ⟨_, rfl⟩
    rw [← hP, ← hQ] at HY
    have HP1 := Lib.hid hP
    have HQ1 := Lib.hid hQ
    clear hP hQ hneg
    generalize M.setB m n = R at HY HN ⊢
    have hF := Lib.hid (Fill2.start w 27)
    go_enter Try.func61, Try.ntmps61
    go_wp2_with fail
    go_loopw [7, 1] (fun i u wr => ∃ (j : Nat) (x : Int) (xs ys : List Int) (B C : Option Addr) (d e : Nat), j ≤ m ∧ i = .int .i64 j ∧ u = .int .i64 x ∧ (0 ≤ x ∧ x ≤ 9223372036854775807) ∧ Hid (x = n / 10 ^ j) ∧ Hid (xs.length = j ∧ ys.length = j) ∧ Hid (xs ++ M.bL (m - j) x = P) ∧ Hid (ys ++ M.bS (m - j) x = Q) ∧ Fill2 w wr B d xs C e ys) (fun i _ _ => m - (intOf i).toNat)
    case atStart => exact ⟨0, n, [], [], none, none, 0, 0, by omega, rfl, rfl, ⟨h0, hn⟩, Lib.hid (by simp), Lib.hid ⟨rfl, rfl⟩, Lib.hid HP1.out.symm, Lib.hid HQ1.out.symm, hF.out⟩
    case round =>
      obtain ⟨j, x, xs, ys, B, C, d, e, hj, rfl, rfl, ⟨hx0, hx1⟩, hxd, hlen, hL, hS, F⟩ := hrel
      clear hF
      have hz := F.size
      obtain ⟨c0, c1, f0, f1, _⟩ := F.box.c2
      obtain ⟨z0, z1, y0, y1, _⟩ := F.res.c2
      have HF := Lib.hid F
      clear F
      by_cases hlt : j < m
      · have hlt' : (j : Int) < (m : Int) := by omega
        have HXL := Lib.hid (show (xs ++ [x % 5]) ++ M.bL (m - (j + 1)) (x / 10) = P by rw [← hL.out, M.bL_step m j hlt]; simp)
        have HXS := Lib.hid (show (ys ++ [x / 5 % 2]) ++ M.bS (m - (j + 1)) (x / 10) = Q by rw [← hS.out, M.bS_step m j hlt]; simp)
        have HXD := Lib.hid (show x / 10 = n / 10 ^ (j + 1) by rw [M.div10, ← hxd.out])
        have hk1 : xs.length + 1 ≤ 6 := by rw [hlen.out.1]; omega
        have hk2 : ys.length + 1 ≤ 6 := by rw [hlen.out.2]; omega
        have hm1' : xs.length + 1 ≤ maxLen := by simp only [maxLen]; omega
        have hm2' : ys.length + 1 ≤ maxLen := by simp only [maxLen]; omega
        clear hL hS hxd
        go_wp2_with (first
          | (at_builtin; refine K.append1 rfl (.tmp 18) (.tmp 21) _ rfl (w.heap.size + 1 + 1) _ i0 _ 1 8 Try.underlying22 hi0 hz0 hz1 hz2 rfl (by omega) B xs.length d _ rfl HF.out.row1 #[.int .i64 (x % 5)] rfl (by simp [Value.oneCell']) (by simp [go_sem]) hm1' (by omega) hz ?_; intro g1 c1' w2 hrow1 hb1 _ hat1 hgr1; have HF2 := Lib.hid (HF.out.left hrow1 hb1 hgr1 hat1); obtain ⟨a0, a1, e0, e1, _⟩ := (HF.out.low hb1).1.c2; obtain ⟨a2, a3, e2, e3, _⟩ := (HF.out.low hb1).2.c2; clear hrow1 hb1 hat1 hgr1)
          | (at_builtin; refine K.append1 rfl (.tmp 25) (.tmp 29) _ rfl (w.heap.size + 1 + 1) _ i0 _ 1 8 Try.underlying22 hi0 hz0 hz1 hz2 rfl (by omega) C ys.length e _ rfl HF2.out.row2 #[.int .i64 (x / 5 % 2)] rfl (by simp [Value.oneCell']) (by simp [go_sem]) hm2' (by omega) HF2.out.size ?_; intro g2 c2' w3 hrow2 hb2 _ hat2 hgr2; have HF3 := Lib.hid (HF2.out.right hrow2 hb2 hgr2 hat2); obtain ⟨a4, a5, e4, e5, _⟩ := (HF2.out.low hb2).1.c2; obtain ⟨a6, a7, e6, e7, _⟩ := (HF2.out.low hb2).2.c2; clear hrow2 hb2 hat2 hgr2))
        go_roundw
        case rel => exact ⟨j + 1, x / 10, xs ++ [x % 5], ys ++ [x / 5 % 2], some ⟨g1, 0, none⟩, some ⟨g2, 0, none⟩, c1', c2', by omega, by go_num, rfl, ⟨by omega, by omega⟩, HXD, Lib.hid ⟨by rw [List.length_append, hlen.out.1]; rfl, by rw [List.length_append, hlen.out.2]; rfl⟩, HXL, HXS, HF3.out⟩
        case measure => simp [intOf]; omega
      · obtain rfl : j = m := by omega
        have q1 : xs = P := by have h := hL.out; rwa [Nat.sub_self, M.bL, List.append_nil] at h
        have q2 : ys = Q := by have h := hS.out; rwa [Nat.sub_self, M.bS, List.append_nil] at h
        subst q1 q2
        by_cases hp : 0 < x
        · have hR := HN.out (HD.out.1 (by rw [← hxd.out]; exact hp))
          subst hR
          clear HY HD hL hS
          go_wp2_with fail
          exact bodyPost_ret (v := .tuple #[.agg #[.slice none 0 0, .slice none 0 0], .bool false]) (by simp [results, Try.results61, go_sem, *]) rfl ⟨none, 0, none, 0, rfl, K.Row.nil _ _ _ _, K.Row.nil _ _ _ _, fun g h => by simp [K.blk] at h, (HF.out.bel.setCell (Nat.le_refl _) _).setCell (Nat.le_refl _) _⟩
        · have hR := HY.out (by
            have h := (not_congr HD.out).1 (by rw [← hxd.out]; exact hp)
            omega)
          subst hR
          clear HN HD hL hS
          go_wp2_with fail
          exact bodyPost_ret (v := .tuple #[.agg #[.slice B xs.length d, .slice C ys.length e], .bool true]) (by simp [results, Try.results61, go_sem, *]) rfl ⟨B, d, C, e, rfl, ((HF.out.row1.setOther (by simp; omega) _).setOther (by simp; omega) _).more (by omega), ((HF.out.row2.setOther (by simp; omega) _).setOther (by simp; omega) _).more (by omega), HF.out.ap, (HF.out.bel.setCell (Nat.le_refl _) _).setCell (Nat.le_refl _) _⟩
set_option maxHeartbeats 1000000 in
theorem s_set (lines n : Int) (w : World) (hn : n ≤ 9223372036854775807) :
    Calls Try.prog 21 #[.int .i64 lines, .int .i64 n] w (BoardH.RetBoardB w (M.setB lines n).1.1 (M.setB lines n).1.2 (M.setB lines n).2) := by
  by_cases hl : 1 ≤ lines ∧ lines ≤ 6
  case' neg =>
    rw [M.setB_no (fun h => hl (M.inR_iff.1 h.1))]
    go_enter Try.func21, Try.ntmps21
    go_wp2_with fail
    refine (Base.s_in_no _ _ _ _ (by omega)).mono ?_
    rintro e w1 ⟨rfl, rfl⟩
    go_wp2_with fail
    exact bodyPost_ret (v := .tuple #[.agg #[.slice none 0 0, .slice none 0 0], .bool false]) (by simp [results, Try.results21, go_sem]) rfl ⟨none, 0, none, 0, rfl, K.Row.nil _ _ _ _, K.Row.nil _ _ _ _, fun g h => by simp [K.blk] at h, by (repeat (first | exact Below.refl _ _ | assumption | (refine K.below_drewN ?_ _) | (refine Below.drew ?_) | (refine Below.alloc ?_ (by first | (simp; done) | (simp; omega) | omega) _) | (refine Below.setCell ?_ (by first | (simp; done) | (simp; omega) | omega) _)))⟩
  case' pos =>
    obtain ⟨m, rfl⟩ := Int.eq_ofNat_of_zero_le (show 0 ≤ lines by omega)
    have hm1 : 1 ≤ m := by omega
    have hm6 : m ≤ 6 := by omega
    have HC := Lib.hid (fun w => s_l5set m n w hm1 hm6 hn)
    have z := K.Own.new w #[.slice none 0 0, .slice none 0 0] 27
    have bb : Below w.heap.size w (w.alloc (.cells #[.slice none 0 0, .slice none 0 0] 27)) := by (repeat (first | exact Below.refl _ _ | assumption | (refine K.below_drewN ?_ _) | (refine Below.drew ?_) | (refine Below.alloc ?_ (by first | (simp; done) | (simp; omega) | omega) _) | (refine Below.setCell ?_ (by first | (simp; done) | (simp; omega) | omega) _)))
    generalize M.setB m n = R at HC ⊢
    go_enter Try.func21, Try.ntmps21
    go_wp2_with fail
    refine (Base.s_in_yes _ _ _ _ (by omega) (by omega)).mono ?_
    rintro e w1 ⟨rfl, rfl⟩
    go_wp2_with fail
    refine (HC.out _).mono ?_
    rintro e w2 ⟨X, n1, Y, m1, rfl, row, row2, ap, b2⟩
    have hlt := row.lt
    have hlu := row2.lt
    simp at hlt hlu
    have rw0 := row.more (lo' := w.heap.size) (by simp)
    have rw1 := row2.more (lo' := w.heap.size) (by simp)
    have bbz := bb.trans (b2.mono bb.size)
    have hz0 := bbz.size
    obtain ⟨z1, z2, z3, z4, z5⟩ := (z.below b2).c2
    clear row row2 b2 bb z
    go_wp2_with fail
    exact bodyPost_ret (v := .tuple #[.agg #[.slice X R.1.1.length n1, .slice Y R.1.2.length m1], .bool R.2]) (by simp [results, Try.results21, go_sem, *]) rfl ⟨X, n1, Y, m1, rfl, by (repeat (first | with_reducible assumption | (with_reducible refine K.Row.setNe ?_ (fun g hg => by have hq := hlt g hg; simp at hq ⊢; omega) _) | (with_reducible refine K.Row.alloc ?_ _) | (with_reducible refine K.Row.drew ?_))), by (repeat (first | with_reducible assumption | (with_reducible refine K.Row.setNe ?_ (fun g hg => by have hq := hlu g hg; simp at hq ⊢; omega) _) | (with_reducible refine K.Row.alloc ?_ _) | (with_reducible refine K.Row.drew ?_))), ap, by (repeat (first | exact Below.refl _ _ | assumption | (refine K.below_drewN ?_ _) | (refine Below.drew ?_) | (refine Below.alloc ?_ (by first | (simp; done) | (simp; omega) | omega) _) | (refine Below.setCell ?_ (by first | (simp; done) | (simp; omega) | omega) _)))⟩
end Go.Proofs.Ytmgegacgjppdbaa.BoardS
