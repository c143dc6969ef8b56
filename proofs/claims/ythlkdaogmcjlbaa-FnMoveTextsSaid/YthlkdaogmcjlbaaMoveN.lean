/-
  Walks: how many beads are moved, by how much the number changes.
-/
import Derived.Test.YthlkdaogmcjlbaaMoveF
import Derived.IntWalk
set_option linter.unusedVariables false
namespace Go.Proofs.Ythlkdaogmcjlbaa.M
def absI (x : Int) : Int := if x < 0 then -x else x
theorem absI_neg {x : Int} (h : x < 0) : absI x = -x := by simp [absI, h]
theorem absI_nn {x : Int} (h : ¬ x < 0) : absI x = x := by simp [absI, h]
theorem absI_bd (x : Int) : 0 ≤ absI x ∧ (absI x = x ∨ absI x = -x) := by unfold absI; split <;> omega
def beads (l : List Move) : Int := l.foldl (fun n m => n + absI m.by_) 0
theorem beads_succ (l : List Move) (k : Nat) (h : k < l.length) : beads (l.take (k + 1)) = beads (l.take k) + absI l[k].by_ := by
  unfold beads; rw [List.take_succ_eq_append_getElem h, List.foldl_append]; rfl
theorem beads_bd {l : List Move} (h : movesOk l = true) : ∀ k, k ≤ l.length → 0 ≤ beads (l.take k) ∧ beads (l.take k) ≤ 5 * k
  | 0, _ => by simp [beads]
  | k + 1, hk => by
      have ih := beads_bd h k (by omega)
      obtain ⟨-, -, h1, -⟩ := movesOk_at h (k := k) (by omega)
      have := absI_bd l[k].by_
      rw [beads_succ _ _ (by omega)]
      omega
def beadsOf (l : List Move) : Int × Bool := if movesOk l = true then (beads l, true) else (0, false)
theorem beadsOf_yes {l : List Move} (h : movesOk l = true) : beadsOf l = (beads l, true) := by simp [beadsOf, h]
theorem beadsOf_no {l : List Move} (h : movesOk l = false) : beadsOf l = (0, false) := by simp [beadsOf, h]
theorem pw_le {n : Nat} (h : n ≤ 7) : 1 ≤ (10 : Int) ^ n ∧ (10 : Int) ^ n ≤ 10000000 := by
  have h1 : (10 : Nat) ^ n ≤ 10 ^ 7 := Nat.pow_le_pow_right (by omega) h
  have h2 : 0 < (10 : Nat) ^ n := Nat.pow_pos (by omega)
  have h3 : (((10 : Nat) ^ n : Nat) : Int) = (10 : Int) ^ n := by simp
  omega
/-- what a move changes. -/
def worth (rods : Int) (m : Move) : Int := (m.by_ * 10 ^ (rods - 1 - m.rod).toNat) * (if m.part = 0 then 5 else 1)
def chStep (rods : Int) (o : Option Int) (m : Move) : Option Int := o.bind fun s => if rods ≤ m.rod then none else some (s + worth rods m)
def chg (rods : Int) (l : List Move) : Option Int := l.foldl (chStep rods) (some 0)
theorem chg_succ (rods : Int) (l : List Move) (k : Nat) (h : k < l.length) : chg rods (l.take (k + 1)) = chStep rods (chg rods (l.take k)) l[k] := by
  unfold chg; rw [List.take_succ_eq_append_getElem h, List.foldl_append]; rfl
theorem fold_none (rods : Int) (l : List Move) : l.foldl (chStep rods) none = none := by
  induction l with
  | nil => rfl
  | cons x l ih => rw [List.foldl_cons]; exact ih
theorem chg_none {rods : Int} {l : List Move} {k : Nat} (h : chg rods (l.take k) = none) : chg rods l = none := by
  have e : l = l.take k ++ l.drop k := (List.take_append_drop k l).symm
  unfold chg at h ⊢
  rw [e, List.foldl_append, h]
  exact fold_none _ _
def changeOf (l : List Move) (rods : Int) : Int × Bool := if movesOk l = true ∧ 1 ≤ rods ∧ rods ≤ 8 then (match chg rods l with | some s => (s, true) | none => (0, false)) else (0, false)
theorem changeOf_some {l : List Move} {rods s : Int} (h : movesOk l = true) (h1 : 1 ≤ rods) (h2 : rods ≤ 8) (hc : chg rods l = some s) : changeOf l rods = (s, true) := by
  simp [changeOf, h, h1, h2, hc]
theorem changeOf_none {l : List Move} {rods : Int} (h : movesOk l = true) (h1 : 1 ≤ rods) (h2 : rods ≤ 8) (hc : chg rods l = none) : changeOf l rods = (0, false) := by
  simp [changeOf, h, h1, h2, hc]
theorem changeOf_no {l : List Move} {rods : Int} (h : ¬ (movesOk l = true ∧ 1 ≤ rods ∧ rods ≤ 8)) : changeOf l rods = (0, false) := by
  unfold changeOf; rw [if_neg h]
theorem mul_bd {z p : Int} (h1 : -5 ≤ z) (h2 : z ≤ 5) (p0 : 1 ≤ p) (p1 : p ≤ 10000000) : -50000000 ≤ z * p ∧ z * p ≤ 50000000 := by
  have a := Int.mul_le_mul_of_nonneg_right h1 (show 0 ≤ p by omega)
  have b := Int.mul_le_mul_of_nonneg_right h2 (show 0 ≤ p by omega)
  omega
end Go.Proofs.Ythlkdaogmcjlbaa.M
namespace Go.Proofs.Ythlkdaogmcjlbaa.MoveN
open Go.RowKit
theorem i_abs (x : Int) (w : World) (h : -9223372036854775807 ≤ x ∧ x ≤ 9223372036854775807) :
    Calls Try.prog 107 #[.int .i64 x] w fun e w' => e = .returned (.int .i64 (M.absI x)) ∧ w = w' := by
  by_cases hn : x < 0
  · rw [M.absI_neg hn]
    go_enter Try.func107, Try.ntmps107
    go_wp2
    go_ret
    exact ⟨rfl, rfl⟩
  · rw [M.absI_nn hn]
    go_enter Try.func107, Try.ntmps107
    go_wp2
    go_ret
    exact ⟨rfl, rfl⟩
theorem s_most (x y : Int) (w : World) :
    Calls Try.prog 106 #[.int .i64 x, .int .i64 y] w fun e w' => e = .returned (.int .i64 (if y < x then x else y)) ∧ w = w' := by
  by_cases hn : y < x
  · rw [if_pos hn]
    go_enter Try.func106, Try.ntmps106
    go_wp2
    go_ret
    exact ⟨rfl, rfl⟩
  · rw [if_neg hn]
    go_enter Try.func106, Try.ntmps106
    go_wp2
    go_ret
    exact ⟨rfl, rfl⟩
theorem s_abs (x : Int) (w : World) :
    Calls Try.prog 106 #[.int .i64 x, .int .i64 (-x)] w fun e w' => e = .returned (.int .i64 (M.absI x)) ∧ w = w' := by
  have h : (if -x < x then x else -x) = M.absI x := by unfold M.absI; split <;> split <;> omega
  rw [← h]
  exact s_most _ _ _
theorem i_power (x : Int) (n : Nat) (w : World) (hx : x = n) (h : n ≤ 7) :
    Calls Try.prog 90 #[.int .i64 x] w fun e w' => e = .returned (.int .i64 ((10 : Int) ^ n)) ∧ w = w' := by
  subst hx
  go_enter Try.func90, Try.ntmps90
  go_wp2
  go_loopw [0, 3] (fun i p wr => ∃ j : Nat, j ≤ n ∧ i = .int .i64 j ∧ p = .int .i64 ((10 : Int) ^ (n - j)) ∧ w = wr) (fun i _ _ => (intOf i).toNat)
  case atStart => exact ⟨n, Nat.le_refl _, rfl, by simp, by simp⟩
  case round =>
    obtain ⟨j, hj, rfl, rfl, rfl⟩ := hrel
    by_cases hlt : 0 < j
    · have h1 : (0 : Int) < (j : Int) := by omega
      obtain ⟨p1, p2⟩ := M.pw_le (n := n - j) (by omega)
      have HP := Lib.hid (show (10 : Int) ^ (n - (j - 1)) = 10 ^ (n - j) * 10 by rw [show n - (j - 1) = n - j + 1 by omega, Int.pow_succ])
      generalize (10 : Int) ^ (n - j) = p at *
      go_wp2
      go_roundw
      case rel => exact ⟨j - 1, by omega, by go_num, by rw [HP.out], trivial⟩
      case measure => simp [intOf]; omega
    · obtain rfl : j = 0 := by omega
      go_wp2
      go_ret
      exact ⟨rfl, rfl⟩
theorem s_power (x : Int) (n : Nat) (w : World) (hx : x = n) (h : n ≤ 7) :
    Calls Try.prog 91 #[.int .i64 x] w fun e w' => e = .returned (.int .i64 ((10 : Int) ^ n)) ∧ w = w' := by
  subst hx
  go_enter Try.func91, Try.ntmps91
  go_wp2
  go_loopw [4, 3] (fun i p wr => ∃ j : Nat, j ≤ n ∧ i = .int .i64 j ∧ p = .int .i64 ((10 : Int) ^ j) ∧ w = wr) (fun i _ _ => n - (intOf i).toNat)
  case atStart => exact ⟨0, Nat.zero_le _, rfl, by simp, by simp⟩
  case round =>
    obtain ⟨j, hj, rfl, rfl, rfl⟩ := hrel
    by_cases hlt : j < n
    · have h1 : (j : Int) < (n : Int) := by omega
      obtain ⟨p1, p2⟩ := M.pw_le (n := j) (by omega)
      have HP := Lib.hid (show (10 : Int) ^ (j + 1) = 10 * 10 ^ j by rw [Int.pow_succ, Int.mul_comm])
      generalize (10 : Int) ^ j = p at *
      go_wp2
      go_roundw
      case rel => exact ⟨j + 1, by omega, by go_num, by rw [HP.out], trivial⟩
      case measure => simp [intOf]; omega
    · obtain rfl : j = n := by omega
      go_wp2
      go_ret
      exact ⟨rfl, rfl⟩
set_option maxHeartbeats 1000000 in
theorem i_beads (A : Option Addr) (c : Nat) (l : List M.Move) (w : World) (hok : M.movesOk l = true) (ha : K.Rd w 3 A l.length (l.flatMap M.moveCells)) :
    Calls Try.prog 76 #[.slice A l.length c] w fun e w' => e = .returned (.int .i64 (M.beads l)) ∧ Below w.heap.size w w' := by
  have hb0 := @M.beads_bd l hok
  have hm := fun k hk => (M.movesOk_at hok (k := k) hk).2.2.1
  have hl : l.length ≤ 60 := ((M.movesOk_iff l).1 hok).1
  clear hok
  go_enter Try.func76, Try.ntmps76
  go_wp2
  go_loopw [8, 3] (fun i n wr => ∃ k : Nat, k ≤ l.length ∧ i = .int .i64 k ∧ n = .int .i64 (M.beads (l.take k)) ∧ Below w.heap.size w wr) (fun i _ _ => l.length - (intOf i).toNat)
  case atStart => exact ⟨0, Nat.zero_le _, rfl, rfl, Below.refl _ _⟩
  case round =>
    obtain ⟨k, hk, rfl, rfl, hb⟩ := hrel
    by_cases hlt : k < l.length
    · obtain ⟨g, o, rfl, hg, c0, c1, c2⟩ := (ha.below hb).move hlt
      have h1 : (k : Int) < (l.length : Int) := by omega
      have h2 : (0 : Int) ≤ (k : Int) := by omega
      have HS := Lib.hid (M.beads_succ l k hlt)
      obtain ⟨n1, n2⟩ := hb0 k hk
      obtain ⟨z1, z2⟩ := hm k hlt
      have hbs := hb.size
      generalize l[k].rod = x at *
      generalize l[k].part = y at *
      generalize l[k].by_ = z at *
      generalize M.beads (l.take k) = n at *
      have HB := M.absI_bd z
      clear hb0 hm
      go_wp2_with fail
      refine (i_abs _ _ (by omega)).mono ?_
      rintro e w1 ⟨rfl, rfl⟩
      generalize M.absI z = a at *
      go_wp2_with fail
      go_roundw
      case rel => exact ⟨k + 1, by omega, by go_num, by rw [HS.out], hb.alloc hb.size _⟩
      case measure => simp [intOf]; omega
    · obtain rfl : k = l.length := by omega
      rw [List.take_length]
      go_wp2
      go_ret
      exact ⟨rfl, hb⟩
set_option maxHeartbeats 1000000 in
theorem s_beads (A : Option Addr) (c : Nat) (l : List M.Move) (w : World) (hok : M.movesOk l = true) (ha : K.Rd w 3 A l.length (l.flatMap M.moveCells)) :
    Calls Try.prog 74 #[.slice A l.length c] w fun e w' => e = .returned (.int .i64 (M.beads l)) ∧ Below w.heap.size w w' := by
  have hb0 := @M.beads_bd l hok
  have hm := fun k hk => (M.movesOk_at hok (k := k) hk).2.2.1
  have hl : l.length ≤ 60 := ((M.movesOk_iff l).1 hok).1
  clear hok
  go_enter Try.func74, Try.ntmps74
  go_wp2
  go_loopw [4, 3] (fun i n wr => ∃ k : Nat, k ≤ l.length ∧ i = .int .i64 k ∧ n = .int .i64 (M.beads (l.take k)) ∧ K.Qt w wr) (fun i _ _ => l.length - (intOf i).toNat)
  case atStart => exact ⟨0, Nat.zero_le _, rfl, rfl, K.Qt.refl _⟩
  case round =>
    obtain ⟨k, hk, rfl, rfl, hq⟩ := hrel
    by_cases hlt : k < l.length
    · obtain ⟨g, o, rfl, hg, c0, c1, c2⟩ := (hq.rd ha).move hlt
      have h1 : (k : Int) < (l.length : Int) := by omega
      have h2 : (0 : Int) ≤ (k : Int) := by omega
      have HS := Lib.hid (M.beads_succ l k hlt)
      obtain ⟨n1, n2⟩ := hb0 k hk
      obtain ⟨z1, z2⟩ := hm k hlt
      generalize l[k].rod = x at *
      generalize l[k].part = y at *
      generalize l[k].by_ = z at *
      generalize M.beads (l.take k) = n at *
      have HB := M.absI_bd z
      have HA := Lib.hid (s_abs z)
      generalize M.absI z = a at *
      have hw1 : IntKind.i64.wrap (-z) = -z := IntWalk.i64_in _ (by omega)
      have hw2 : IntKind.i64.wrap (n + a) = n + a := IntWalk.i64_in _ (by omega)
      clear hb0 hm
      go_wp2_with fail
      go_quiet ((go_at_call 106; exact K.quiet_l (HA.out _)))
      clear hw1 hw2
      go_wp2_with fail
      go_roundw
      case rel => exact ⟨k + 1, by omega, by go_num, by rw [HS.out], hq.then_ _⟩
      case measure => simp [intOf]; omega
    · obtain rfl : k = l.length := by omega
      rw [List.take_length]
      go_wp2
      go_ret
      exact ⟨rfl, hq.below _⟩
theorem i_beadsOf (A : Option Addr) (c : Nat) (l : List M.Move) (w : World) (hl : l.length ≤ 1048576) (ha : K.Rd w 3 A l.length (l.flatMap M.moveCells)) :
    Calls Try.prog 31 #[.slice A l.length c] w fun e w' => e = .returned (.tuple #[.int .i64 (M.beadsOf l).1, .bool (M.beadsOf l).2]) ∧ Below w.heap.size w w' := by
  have HS := Lib.hid (MoveF.i_good A c l w hl ha)
  cases hok : M.movesOk l with
  | false =>
    rw [hok] at HS
    rw [M.beadsOf_no hok]
    clear hok
    go_enter Try.func31, Try.ntmps31
    go_wp2_with fail
    refine HS.out.mono ?_
    rintro e w1 ⟨rfl, b1⟩
    go_wp2_with fail
    go_ret2
    exact ⟨rfl, b1⟩
  | true =>
    rw [hok] at HS
    have HN := Lib.hid (fun w h => i_beads A c l w hok h)
    rw [M.beadsOf_yes hok]
    clear hok
    go_enter Try.func31, Try.ntmps31
    go_wp2_with fail
    refine HS.out.mono ?_
    rintro e w1 ⟨rfl, b1⟩
    have r1 := ha.below b1
    go_wp2_with fail
    refine (HN.out _ r1).mono ?_
    rintro e w2 ⟨rfl, b2⟩
    have b3 := b1.trans (b2.mono b1.size)
    clear b1 b2
    go_wp2_with fail
    go_ret2
    exact ⟨rfl, b3⟩
theorem s_beadsOf (A : Option Addr) (c : Nat) (l : List M.Move) (w : World) (hl : l.length ≤ 1048576) (ha : K.Rd w 3 A l.length (l.flatMap M.moveCells)) :
    Calls Try.prog 29 #[.slice A l.length c] w fun e w' => e = .returned (.tuple #[.int .i64 (M.beadsOf l).1, .bool (M.beadsOf l).2]) ∧ Below w.heap.size w w' := by
  have HS := Lib.hid (MoveF.s_good A c l w hl ha)
  cases hok : M.movesOk l with
  | false =>
    rw [hok] at HS
    rw [M.beadsOf_no hok]
    clear hok
    go_enter Try.func29, Try.ntmps29
    go_wp2_with fail
    refine HS.out.mono ?_
    rintro e w1 ⟨rfl, b1⟩
    go_wp2_with fail
    go_ret2
    exact ⟨rfl, b1⟩
  | true =>
    rw [hok] at HS
    have HN := Lib.hid (fun w h => s_beads A c l w hok h)
    rw [M.beadsOf_yes hok]
    clear hok
    go_enter Try.func29, Try.ntmps29
    go_wp2_with fail
    refine HS.out.mono ?_
    rintro e w1 ⟨rfl, b1⟩
    have r1 := ha.below b1
    go_wp2_with fail
    refine (HN.out _ r1).mono ?_
    rintro e w2 ⟨rfl, b2⟩
    have b3 := b1.trans (b2.mono b1.size)
    clear b1 b2
    go_wp2_with fail
    go_ret2
    exact ⟨rfl, b3⟩
set_option maxHeartbeats 2000000 in
theorem i_change (A : Option Addr) (c : Nat) (l : List M.Move) (rods : Int) (w : World) (hl : l.length ≤ 1048576) (hr : M.i64 rods) (ha : K.Rd w 3 A l.length (l.flatMap M.moveCells)) :
    Calls Try.prog 44 #[.slice A l.length c, .int .i64 rods] w fun e w' => e = .returned (.tuple #[.int .i64 (M.changeOf l rods).1, .bool (M.changeOf l rods).2]) ∧ Below w.heap.size w w' := by
  obtain ⟨hr1, hr2⟩ := hr
  have HS := Lib.hid (MoveF.i_good A c l w hl ha)
  cases hok : M.movesOk l with
  | false =>
    rw [hok] at HS
    rw [M.changeOf_no (by rw [hok]; simp)]
    clear hok
    go_enter Try.func44, Try.ntmps44
    go_wp2_with fail
    refine HS.out.mono ?_
    rintro e w1 ⟨rfl, b1⟩
    go_wp2_with fail
    go_ret2
    exact ⟨rfl, b1⟩
  | true =>
    rw [hok] at HS
    by_cases hR : 1 ≤ rods ∧ rods ≤ 8
    · obtain ⟨R1, R2⟩ := hR
      have HN := Lib.hid (fun h : M.chg rods l = none => M.changeOf_none hok R1 R2 h)
      have HY := Lib.hid (fun s (h : M.chg rods l = some s) => M.changeOf_some hok R1 R2 h)
      have hm := fun k hk => M.movesOk_at hok (k := k) hk
      have h60 : l.length ≤ 60 := ((M.movesOk_iff l).1 hok).1
      generalize M.changeOf l rods = R at HN HY ⊢
      clear hok
      go_enter Try.func44, Try.ntmps44
      go_wp2_with fail
      refine HS.out.mono ?_
      rintro e w1 ⟨rfl, b1⟩
      go_wp2_with fail
      refine (Base.i_within_yes _ _ _ _ (by omega) (by omega)).mono ?_
      rintro e w2 ⟨rfl, rfl⟩
      go_wp2_with fail
      go_loopw [20, 6] (fun i n wr => ∃ (k : Nat) (s : Int), k ≤ l.length ∧ i = .int .i64 k ∧ n = .int .i64 s ∧ M.chg rods (l.take k) = some s ∧ (-250000000 * k ≤ s ∧ s ≤ 250000000 * k) ∧ Below w.heap.size w wr) (fun i _ _ => l.length - (intOf i).toNat)
      case atStart => exact ⟨0, 0, Nat.zero_le _, rfl, rfl, rfl, by simp, b1⟩
      case round =>
        obtain ⟨k, s, hk, rfl, rfl, hc, hs, hb⟩ := hrel
        have HC := Lib.hid hc
        clear hc
        by_cases hlt : k < l.length
        · obtain ⟨g, o, rfl, hg, c0, c1, c2⟩ := (ha.below hb).move hlt
          have h1 : (k : Int) < (l.length : Int) := by omega
          have h2 : (0 : Int) ≤ (k : Int) := by omega
          have HSU := Lib.hid (M.chg_succ rods l k hlt)
          obtain ⟨⟨x1, x2⟩, ⟨y1, y2⟩, ⟨z1, z2⟩, z0⟩ := hm k hlt
          have hbs := hb.size
          have HST : Hid (M.chStep rods (some s) l[k] = if rods ≤ l[k].rod then none else some (s + (l[k].by_ * 10 ^ (rods - 1 - l[k].rod).toNat) * (if l[k].part = 0 then 5 else 1))) := rfl
          generalize l[k] = mm at *
          obtain ⟨x, y, z⟩ := mm
          dsimp only at *
          by_cases hx : rods ≤ x
          · have HK := Lib.hid (HN.out (M.chg_none (k := k + 1) (by rw [HSU.out, HC.out, HST.out, if_pos hx])))
            clear hm HSU HST HN HY
            go_wp2_with fail
            go_ret2
            exact ⟨by rw [HK.out]; rfl, (hb.alloc hb.size _)⟩
          · obtain ⟨j, hj⟩ : ∃ j : Nat, rods - 1 - x = j := ⟨(rods - 1 - x).toNat, by omega⟩
            have hj7 : j ≤ 7 := by omega
            have HPW := Lib.hid (fun w => i_power (j : Int) j w rfl hj7)
            have hst := HST.out
            rw [if_neg hx, show (rods - 1 - x).toNat = j by omega] at hst
            obtain ⟨p1, p2⟩ := M.pw_le hj7
            generalize (10 : Int) ^ j = p at *
            obtain ⟨q1, q2⟩ := M.mul_bd z1 z2 p1 p2
            by_cases hy : y = 0
            · obtain ⟨wv, hwv⟩ : ∃ wv, wv = z * p * 5 := ⟨_, rfl⟩
              have HK := Lib.hid (show M.chg rods (l.take (k + 1)) = some (s + wv) by rw [HSU.out, HC.out, hst, if_pos hy, hwv])
              have hwb : -250000000 ≤ wv ∧ wv ≤ 250000000 := by skip; omega
              clear hst HST HSU hm HN HY HC
              have hw1 : IntKind.i64.wrap (rods - 1) = rods - 1 := IntWalk.i64_in _ (by omega)
              have hw2 : IntKind.i64.wrap (rods - 1 - x) = rods - 1 - x := IntWalk.i64_in _ (by omega)
              go_wp2_with fail
              go_quiet ((go_at_call 90; exact K.quiet_l (HPW.out _)))
              clear hw1 hw2
              go_wp2_with fail
              go_roundw
              case rel => exact ⟨k + 1, s + wv, by omega, by go_num, by first | rfl | go_num, HK.out, by omega, K.below_drewN (hb.alloc hb.size _) _⟩
              case measure => simp [intOf]; omega
            · have hy1 : y = 1 := by omega
              obtain ⟨wv, hwv⟩ : ∃ wv, wv = z * p := ⟨_, rfl⟩
              have HK := Lib.hid (show M.chg rods (l.take (k + 1)) = some (s + wv) by rw [HSU.out, HC.out, hst, if_neg hy, hwv, Int.mul_one])
              have hwb : -250000000 ≤ wv ∧ wv ≤ 250000000 := by omega
              clear hst HST HSU hm HN HY HC
              have hw1 : IntKind.i64.wrap (rods - 1) = rods - 1 := IntWalk.i64_in _ (by omega)
              have hw2 : IntKind.i64.wrap (rods - 1 - x) = rods - 1 - x := IntWalk.i64_in _ (by omega)
              go_wp2_with fail
              go_quiet ((go_at_call 90; exact K.quiet_l (HPW.out _)))
              clear hw1 hw2
              go_wp2_with fail
              go_roundw
              case rel => exact ⟨k + 1, s + wv, by omega, by go_num, by first | rfl | go_num, HK.out, by omega, K.below_drewN (hb.alloc hb.size _) _⟩
              case measure => simp [intOf]; omega
        · obtain rfl : k = l.length := by omega
          have hc := HC.out
          rw [List.take_length] at hc
          have HK := Lib.hid (HY.out s hc)
          clear hc HC hm HN HY
          go_wp2_with fail
          go_ret2
          exact ⟨by rw [HK.out]; rfl, hb⟩
    · rw [M.changeOf_no (fun h => hR h.2)]
      clear hok
      go_enter Try.func44, Try.ntmps44
      go_wp2_with fail
      refine HS.out.mono ?_
      rintro e w1 ⟨rfl, b1⟩
      go_wp2_with fail
      refine (Base.i_within_no _ _ _ _ (by omega)).mono ?_
      rintro e w2 ⟨rfl, rfl⟩
      go_wp2_with fail
      go_ret2
      exact ⟨rfl, b1⟩
set_option maxHeartbeats 2000000 in
theorem s_change (A : Option Addr) (c : Nat) (l : List M.Move) (rods : Int) (w : World) (hl : l.length ≤ 1048576) (hr : M.i64 rods) (ha : K.Rd w 3 A l.length (l.flatMap M.moveCells)) :
    Calls Try.prog 46 #[.slice A l.length c, .int .i64 rods] w fun e w' => e = .returned (.tuple #[.int .i64 (M.changeOf l rods).1, .bool (M.changeOf l rods).2]) ∧ Below w.heap.size w w' := by
  obtain ⟨hr1, hr2⟩ := hr
  have HS := Lib.hid (MoveF.s_good A c l w hl ha)
  cases hok : M.movesOk l with
  | false =>
    rw [hok] at HS
    rw [M.changeOf_no (by rw [hok]; simp)]
    clear hok
    go_enter Try.func46, Try.ntmps46
    go_wp2_with fail
    refine HS.out.mono ?_
    rintro e w1 ⟨rfl, b1⟩
    go_wp2_with fail
    go_ret2
    exact ⟨rfl, b1⟩
  | true =>
    rw [hok] at HS
    by_cases hR : 1 ≤ rods ∧ rods ≤ 8
    · obtain ⟨R1, R2⟩ := hR
      have HN := Lib.hid (fun h : M.chg rods l = none => M.changeOf_none hok R1 R2 h)
      have HY := Lib.hid (fun s (h : M.chg rods l = some s) => M.changeOf_some hok R1 R2 h)
      have hm := fun k hk => M.movesOk_at hok (k := k) hk
      have h60 : l.length ≤ 60 := ((M.movesOk_iff l).1 hok).1
      generalize M.changeOf l rods = R at HN HY ⊢
      clear hok
      go_enter Try.func46, Try.ntmps46
      go_wp2_with fail
      refine HS.out.mono ?_
      rintro e w1 ⟨rfl, b1⟩
      go_wp2_with fail
      refine (Base.s_in_yes _ _ _ _ (by omega) (by omega)).mono ?_
      rintro e w2 ⟨rfl, rfl⟩
      go_wp2_with fail
      go_loopw [7, 6] (fun i n wr => ∃ (k : Nat) (s : Int), k ≤ l.length ∧ i = .int .i64 k ∧ n = .int .i64 s ∧ M.chg rods (l.take k) = some s ∧ (-250000000 * k ≤ s ∧ s ≤ 250000000 * k) ∧ Below w.heap.size w wr) (fun i _ _ => l.length - (intOf i).toNat)
      case atStart => exact ⟨0, 0, Nat.zero_le _, rfl, rfl, rfl, by simp, b1⟩
      case round =>
        obtain ⟨k, s, hk, rfl, rfl, hc, hs, hb⟩ := hrel
        have HC := Lib.hid hc
        clear hc
        by_cases hlt : k < l.length
        · obtain ⟨g, o, rfl, hg, c0, c1, c2⟩ := (ha.below hb).move hlt
          have h1 : (k : Int) < (l.length : Int) := by omega
          have h2 : (0 : Int) ≤ (k : Int) := by omega
          have HSU := Lib.hid (M.chg_succ rods l k hlt)
          obtain ⟨⟨x1, x2⟩, ⟨y1, y2⟩, ⟨z1, z2⟩, z0⟩ := hm k hlt
          have hbs := hb.size
          have HST : Hid (M.chStep rods (some s) l[k] = if rods ≤ l[k].rod then none else some (s + (l[k].by_ * 10 ^ (rods - 1 - l[k].rod).toNat) * (if l[k].part = 0 then 5 else 1))) := rfl
          generalize l[k] = mm at *
          obtain ⟨x, y, z⟩ := mm
          dsimp only at *
          by_cases hx : rods ≤ x
          · have HK := Lib.hid (HN.out (M.chg_none (k := k + 1) (by rw [HSU.out, HC.out, HST.out, if_pos hx])))
            clear hm HSU HST HN HY
            go_wp2_with fail
            go_ret2
            exact ⟨by rw [HK.out]; rfl, (hb.alloc hb.size _)⟩
          · obtain ⟨j, hj⟩ : ∃ j : Nat, rods - 1 - x = j := ⟨(rods - 1 - x).toNat, by omega⟩
            have hj7 : j ≤ 7 := by omega
            have HPW := Lib.hid (fun w => s_power (j : Int) j w rfl hj7)
            have hst := HST.out
            rw [if_neg hx, show (rods - 1 - x).toNat = j by omega] at hst
            obtain ⟨p1, p2⟩ := M.pw_le hj7
            generalize (10 : Int) ^ j = p at *
            obtain ⟨q1, q2⟩ := M.mul_bd z1 z2 p1 p2
            by_cases hy : y = 0
            · obtain ⟨wv, hwv⟩ : ∃ wv, wv = z * (5 * p) := ⟨_, rfl⟩
              have HK := Lib.hid (show M.chg rods (l.take (k + 1)) = some (s + wv) by rw [HSU.out, HC.out, hst, if_pos hy, hwv]; rw [Int.mul_comm 5 p, Int.mul_assoc])
              have hwb : -250000000 ≤ wv ∧ wv ≤ 250000000 := by (have e : z * (5 * p) = z * p * 5 := (by rw [Int.mul_comm 5 p, Int.mul_assoc])); omega
              clear hst HST HSU hm HN HY HC
              have hw1 : IntKind.i64.wrap (rods - 1) = rods - 1 := IntWalk.i64_in _ (by omega)
              have hw2 : IntKind.i64.wrap (rods - 1 - x) = rods - 1 - x := IntWalk.i64_in _ (by omega)
              go_wp2_with fail
              refine (HPW.out _).mono ?_
              rintro e w1 ⟨rfl, rfl⟩
              go_wp2_with fail
              go_roundw
              case rel => exact ⟨k + 1, s + wv, by omega, by go_num, by first | rfl | go_num, HK.out, by omega, (hb.alloc hb.size _)⟩
              case measure => simp [intOf]; omega
            · have hy1 : y = 1 := by omega
              obtain ⟨wv, hwv⟩ : ∃ wv, wv = z * p := ⟨_, rfl⟩
              have HK := Lib.hid (show M.chg rods (l.take (k + 1)) = some (s + wv) by rw [HSU.out, HC.out, hst, if_neg hy, hwv, Int.mul_one])
              have hwb : -250000000 ≤ wv ∧ wv ≤ 250000000 := by omega
              clear hst HST HSU hm HN HY HC
              have hw1 : IntKind.i64.wrap (rods - 1) = rods - 1 := IntWalk.i64_in _ (by omega)
              have hw2 : IntKind.i64.wrap (rods - 1 - x) = rods - 1 - x := IntWalk.i64_in _ (by omega)
              go_wp2_with fail
              refine (HPW.out _).mono ?_
              rintro e w1 ⟨rfl, rfl⟩
              go_wp2_with fail
              go_roundw
              case rel => exact ⟨k + 1, s + wv, by omega, by go_num, by first | rfl | go_num, HK.out, by omega, (hb.alloc hb.size _)⟩
              case measure => simp [intOf]; omega
        · obtain rfl : k = l.length := by omega
          have hc := HC.out
          rw [List.take_length] at hc
          have HK := Lib.hid (HY.out s hc)
          clear hc HC hm HN HY
          go_wp2_with fail
          go_ret2
          exact ⟨by rw [HK.out]; rfl, hb⟩
    · rw [M.changeOf_no (fun h => hR h.2)]
      clear hok
      go_enter Try.func46, Try.ntmps46
      go_wp2_with fail
      refine HS.out.mono ?_
      rintro e w1 ⟨rfl, b1⟩
      go_wp2_with fail
      refine (Base.s_in_no _ _ _ _ (by omega)).mono ?_
      rintro e w2 ⟨rfl, rfl⟩
      go_wp2_with fail
      go_ret2
      exact ⟨rfl, b1⟩
end Go.Proofs.Ythlkdaogmcjlbaa.MoveN
