/-
  Walks: how many of the smallest unit make another one (printed by gen_unitsin.py).
-/
import Derived.Test.YtfgnmjnlhnpmoaaSystem
set_option linter.unusedVariables false
namespace Go.Proofs.Ytfgnmjnlhnpmoaa.M
def uFind (name : ByteArray) : List Unit → Int → Int × Bool
  | [], _ => (0, false)
  | u :: l, n => if u.name = name then (n * u.size, true) else uFind name l (n * u.size)
theorem uFind_drop (name : ByteArray) (l : List Unit) (k : Nat) (h : k < l.length) (n : Int) : uFind name (l.drop k) n = if l[k].name = name then (n * l[k].size, true) else uFind name (l.drop (k + 1)) (n * l[k].size) := by
  rw [List.drop_eq_getElem_cons h]; rfl
def unitsIn (l : List Unit) (name : ByteArray) : Int × Bool := if sysOk l = true then uFind name l 1 else (0, false)
theorem unitsIn_yes {l : List Unit} (h : sysOk l = true) (name : ByteArray) : unitsIn l name = uFind name l 1 := by simp [unitsIn, h]
theorem unitsIn_no {l : List Unit} (h : sysOk l = false) (name : ByteArray) : unitsIn l name = (0, false) := by simp [unitsIn, h]
theorem mul100 {n s P : Int} (h1 : 1 ≤ n) (h2 : n ≤ P) (h3 : 1 ≤ s) (h4 : s ≤ 100) : 1 ≤ n * s ∧ n * s ≤ P * 100 := by
  constructor
  · have := Int.mul_le_mul_of_nonneg_right h1 (show 0 ≤ s by omega); omega
  · have a := Int.mul_le_mul_of_nonneg_right h2 (show 0 ≤ s by omega)
    have b := Int.mul_le_mul_of_nonneg_left h4 (show 0 ≤ P by omega)
    omega
theorem pw100 {k : Nat} (h : k ≤ 6) : (100 : Int) ^ k ≤ 1000000000000 := by
  have h1 : (100 : Nat) ^ k ≤ 100 ^ 6 := Nat.pow_le_pow_right (by omega) h
  have h3 : (((100 : Nat) ^ k : Nat) : Int) = (100 : Int) ^ k := by simp
  omega
end Go.Proofs.Ytfgnmjnlhnpmoaa.M
namespace Go.Proofs.Ytfgnmjnlhnpmoaa.UnitsIn
open Go.RowKit
set_option maxHeartbeats 2000000 in
theorem i_unitsin (A : Option Addr) (c : Nat) (l : List M.Unit) (name : ByteArray) (w : World) (hl : l.length ≤ 1048576) (hs : ∀ u ∈ l, u.name.size ≤ 9223372036854775807) (hc : l.length ≤ c) (hc2 : c ≤ 9223372036854775807) (ha : K.Rd w 2 A l.length (l.flatMap M.unitCells)) :
    Calls Try.prog 23 #[.slice A l.length c, .string name] w fun e w' => e = .returned (.tuple #[.int .i64 (M.unitsIn l name).1, .bool (M.unitsIn l name).2]) ∧ Below w.heap.size w w' := by
  have HS := Lib.hid (Sys.i_sys A c l w hl hs hc hc2 ha)
  cases hok : M.sysOk l with
  | false =>
    rw [hok] at HS
    rw [M.unitsIn_no hok]
    clear hok
    go_enter Try.func23, Try.ntmps23
    go_wp2_with fail
    refine HS.out.mono ?_
    rintro e w1 ⟨rfl, b1⟩
    go_wp2_with fail
    go_ret2
    exact ⟨rfl, b1⟩
  | true =>
    rw [hok] at HS
    have h6 : l.length ≤ 6 := ((M.sysOk_iff l).1 hok).1.2
    have hz := M.sysOk_size hok
    have HR := Lib.hid (M.unitsIn_yes hok name)
    generalize M.unitsIn l name = R at HR ⊢
    clear hok hs
    go_enter Try.func23, Try.ntmps23
    go_wp2_with fail
    refine HS.out.mono ?_
    rintro e w1 ⟨rfl, b1⟩
    go_wp2_with fail
    go_loopw [14, 6] (fun i a wr => ∃ (k : Nat) (n : Int), k ≤ l.length ∧ i = .int .i64 k ∧ a = .int .i64 n ∧ Hid (R = M.uFind name (l.drop k) n) ∧ Hid (1 ≤ n ∧ n ≤ 100 ^ k) ∧ Below w.heap.size w wr) (fun i _ _ => l.length - (intOf i).toNat)
    case atStart => exact ⟨0, 1, Nat.zero_le _, rfl, rfl, Lib.hid (by rw [List.drop_zero]; exact HR.out), Lib.hid (by simp), b1⟩
    case round =>
      obtain ⟨k, n, hk, rfl, rfl, hR, hn, hb⟩ := hrel
      have hbs := hb.size
      by_cases hlt : k < l.length
      · obtain ⟨g, o, rfl, hg, c0, c1⟩ := (ha.below hb).unit hlt
        have h1 : (k : Int) < (l.length : Int) := by omega
        have h2 : (0 : Int) ≤ (k : Int) := by omega
        have HU := Lib.hid (M.uFind_drop name l k hlt n)
        obtain ⟨z1, z2⟩ := hz k hlt
        generalize l[k].name = nk at *
        generalize l[k].size = sz at *
        have hm := M.mul100 hn.out.1 hn.out.2 z1 z2
        have hp := M.pw100 (k := k + 1) (by omega)
        rw [Int.pow_succ] at hp
        have HN := Lib.hid (show 1 ≤ n * sz ∧ n * sz ≤ 100 ^ (k + 1) by rw [Int.pow_succ]; exact hm)
        have hm2 : 1 ≤ n * sz ∧ n * sz ≤ 1000000000000 := ⟨hm.1, Int.le_trans hm.2 hp⟩
        obtain ⟨m1, m2⟩ := hm2
        clear hm hp hz
        by_cases he : nk = name
        · have hse := M.str_eq he
          have HK := Lib.hid (show R = (n * sz, true) by rw [hR.out, HU.out, if_pos he])
          clear he
          go_wp2_with fail
          go_ret2
          exact ⟨by rw [HK.out]; rfl, (hb.alloc hbs _)⟩
        · have hse := M.str_ne he
          have HK := Lib.hid (show R = M.uFind name (l.drop (k + 1)) (n * sz) by rw [hR.out, HU.out, if_neg he])
          clear he
          go_wp2_with fail
          go_roundw
          case rel => exact ⟨k + 1, n * sz, by omega, by go_num, rfl, HK, HN, (hb.alloc hbs _)⟩
          case measure => simp [intOf]; omega
      · obtain rfl : k = l.length := by omega
        have HK := Lib.hid (show R = (0, false) by rw [hR.out, List.drop_length]; rfl)
        go_wp2_with fail
        go_ret2
        exact ⟨by rw [HK.out]; rfl, hb⟩
set_option maxHeartbeats 2000000 in
theorem s_unitsin (A : Option Addr) (c : Nat) (l : List M.Unit) (name : ByteArray) (w : World) (hl : l.length ≤ 1048576) (hs : ∀ u ∈ l, u.name.size ≤ 9223372036854775807) (hc : l.length ≤ c) (hc2 : c ≤ 9223372036854775807) (ha : K.Rd w 2 A l.length (l.flatMap M.unitCells)) :
    Calls Try.prog 22 #[.slice A l.length c, .string name] w fun e w' => e = .returned (.tuple #[.int .i64 (M.unitsIn l name).1, .bool (M.unitsIn l name).2]) ∧ Below w.heap.size w w' := by
  have HS := Lib.hid (Sys.s_sys A c l w hl hs hc hc2 ha)
  cases hok : M.sysOk l with
  | false =>
    rw [hok] at HS
    rw [M.unitsIn_no hok]
    clear hok
    go_enter Try.func22, Try.ntmps22
    go_wp2_with fail
    refine HS.out.mono ?_
    rintro e w1 ⟨rfl, b1⟩
    go_wp2_with fail
    go_ret2
    exact ⟨rfl, b1⟩
  | true =>
    rw [hok] at HS
    have h6 : l.length ≤ 6 := ((M.sysOk_iff l).1 hok).1.2
    have hz := M.sysOk_size hok
    have HR := Lib.hid (M.unitsIn_yes hok name)
    generalize M.unitsIn l name = R at HR ⊢
    clear hok hs
    go_enter Try.func22, Try.ntmps22
    go_wp2_with fail
    refine HS.out.mono ?_
    rintro e w1 ⟨rfl, b1⟩
    go_wp2_with fail
    go_loopw [7, 6] (fun i a wr => ∃ (k : Nat) (n : Int), k ≤ l.length ∧ i = .int .i64 k ∧ a = .int .i64 n ∧ Hid (R = M.uFind name (l.drop k) n) ∧ Hid (1 ≤ n ∧ n ≤ 100 ^ k) ∧ Below w.heap.size w wr) (fun i _ _ => l.length - (intOf i).toNat)
    case atStart => exact ⟨0, 1, Nat.zero_le _, rfl, rfl, Lib.hid (by rw [List.drop_zero]; exact HR.out), Lib.hid (by simp), b1⟩
    case round =>
      obtain ⟨k, n, hk, rfl, rfl, hR, hn, hb⟩ := hrel
      have hbs := hb.size
      by_cases hlt : k < l.length
      · obtain ⟨g, o, rfl, hg, c0, c1⟩ := (ha.below hb).unit hlt
        have h1 : (k : Int) < (l.length : Int) := by omega
        have h2 : (0 : Int) ≤ (k : Int) := by omega
        have HU := Lib.hid (M.uFind_drop name l k hlt n)
        obtain ⟨z1, z2⟩ := hz k hlt
        generalize l[k].name = nk at *
        generalize l[k].size = sz at *
        have hm := M.mul100 hn.out.1 hn.out.2 z1 z2
        have hp := M.pw100 (k := k + 1) (by omega)
        rw [Int.pow_succ] at hp
        have HN := Lib.hid (show 1 ≤ n * sz ∧ n * sz ≤ 100 ^ (k + 1) by rw [Int.pow_succ]; exact hm)
        have hm2 : 1 ≤ n * sz ∧ n * sz ≤ 1000000000000 := ⟨hm.1, Int.le_trans hm.2 hp⟩
        obtain ⟨m1, m2⟩ := hm2
        clear hm hp hz
        by_cases he : nk = name
        · have hse := M.str_eq he
          have HK := Lib.hid (show R = (n * sz, true) by rw [hR.out, HU.out, if_pos he])
          clear he
          go_wp2_with fail
          go_ret2
          exact ⟨by rw [HK.out]; rfl, hb⟩
        · have hse := M.str_ne he
          have HK := Lib.hid (show R = M.uFind name (l.drop (k + 1)) (n * sz) by rw [hR.out, HU.out, if_neg he])
          clear he
          go_wp2_with fail
          go_roundw
          case rel => exact ⟨k + 1, n * sz, by omega, by go_num, rfl, HK, HN, hb⟩
          case measure => simp [intOf]; omega
      · obtain rfl : k = l.length := by omega
        have HK := Lib.hid (show R = (0, false) by rw [hR.out, List.drop_length]; rfl)
        go_wp2_with fail
        go_ret2
        exact ⟨by rw [HK.out]; rfl, hb⟩
end Go.Proofs.Ytfgnmjnlhnpmoaa.UnitsIn
