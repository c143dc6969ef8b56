/-
  Walks: a text cut at a byte, in the program and in the reference.
-/
import Derived.Test.YthlkdaogmcjlbaaProg
import Derived.Test.YthlkdaogmcjlbaaMath
import Derived.Test.YthlkdaogmcjlbaaKit
import Derived.BigQuiet
import Derived.WalkSpells
import Derived.WalkLawsBesides
namespace Go.Proofs.Ythlkdaogmcjlbaa.Spl
open Go.RowKit

theorem infoStr : (Try.prog.info? 9).map (fun i => (i.zero, i.size, i.bytes)) = some (some (.string ByteArray.empty), 1, 16) := by kernel_rfl

set_option maxHeartbeats 1000000 in
theorem i_split (s : ByteArray) (b : Int) (w : World) (hs : s.size ≤ 1048576) :
    Calls Try.prog 80 #[.string s, .int .u8 b] w (K.RetRow w 9 1 (M.spl s b).length ((M.spl s b).map Value.string)) := by
  obtain ⟨i0, hi0, hz0, hz1, hz2⟩ := info_parts infoStr
  go_enter Try.func80, Try.ntmps80
  go_wp2_with fail
  go_loopw [5, 6, 7] (fun o f i wr => ∃ (k : Nat) (A : Option Addr) (c : Nat), k ≤ s.size ∧ i = .int .i64 k ∧ f = .int .i64 (M.splSt s b k).2 ∧ o = .slice A (M.splSt s b k).1.length c ∧
      K.Row wr w.heap.size 9 1 A (M.splSt s b k).1.length c ((M.splSt s b k).1.map Value.string) ∧ Below w.heap.size w wr) (fun _ _ i _ => s.size - (intOf i).toNat)
  case atStart => exact ⟨0, none, 0, Nat.zero_le _, rfl, rfl, rfl, K.Row.nil _ _ _ _, Below.refl _ _⟩
  case round =>
    obtain ⟨k, A, c, hk, rfl, rfl, rfl, hrow, hb⟩ := hrel
    obtain ⟨hl, hf⟩ := M.splSt_bd s b k
    have hbs := hb.size
    by_cases hlt : k < s.size
    · by_cases he : (s[k].toNat : Int) = b
      · have HY := Lib.hid (M.splSt_yes hlt he)
        have he' : ((s[k].toNat : Int) == b) = true := beq_iff_eq.2 he
        clear he
        generalize hF : (M.splSt s b k).2 = F at *
        generalize hL : (M.splSt s b k).1 = L at *
        clear hF hL
        go_wp2_with (at_builtin; refine K.append1 rfl (.tmp 19) (.tmp 24) _ rfl w.heap.size _ i0 _ 1 16 Try.underlying83 hi0 hz0 hz1 hz2 rfl (by omega) A L.length c _ rfl hrow #[.string (s.extract F k)] rfl (by simp [Value.oneCell']) rfl (by simp only [maxLen]; omega) (by omega) hbs ?_; intro g c' w1 hrow1 hb1 _ _ _)
        go_roundw
        case rel => exact ⟨k + 1, some ⟨g, 0, none⟩, c', by omega, by go_num, by rw [HY.out]; simp, by rw [HY.out]; simp, by rw [HY.out]; simpa using hrow1, hb.trans hb1⟩
        case measure => simp [intOf]; omega
      · have HN := Lib.hid (M.splSt_no hlt he)
        have he' : ((s[k].toNat : Int) == b) = false := beq_eq_false_iff_ne.2 he
        clear he
        go_wp2
        go_roundw
        case rel => exact ⟨k + 1, A, c, by omega, by go_num, by rw [HN.out], by rw [HN.out], by rw [HN.out]; exact hrow, hb⟩
        case measure => simp [intOf]; omega
    · obtain rfl : k = s.size := by omega
      have hfin : Hid (M.spl s b = (M.splSt s b s.size).1 ++ [s.extract (M.splSt s b s.size).2 s.size]) := rfl
      generalize hF : (M.splSt s b s.size).2 = F at *
      generalize hL : (M.splSt s b s.size).1 = L at *
      clear hF hL
      go_wp2_with (at_builtin; refine K.append1 rfl (.tmp 28) (.tmp 32) _ rfl w.heap.size _ i0 _ 1 16 Try.underlying83 hi0 hz0 hz1 hz2 rfl (by omega) A L.length c _ rfl hrow #[.string (s.extract F s.size)] rfl (by simp [Value.oneCell']) rfl (by simp only [maxLen]; omega) (by omega) hbs ?_; intro g c' w1 hrow1 hb1 _ _ _)
      go_ret
      have e := hfin.out
      refine ⟨some ⟨g, 0, none⟩, c', ?_, ?_, hb.trans hb1⟩
      · rw [e]; simp
      · rw [e]; simpa using hrow1

set_option maxHeartbeats 1000000 in
theorem s_split (s : ByteArray) (b : Int) (w : World) (hs : s.size ≤ 1048576) :
    Calls Try.prog 86 #[.string s, .int .u8 b] w (K.RetRow w 9 1 (M.spl s b).length ((M.spl s b).map Value.string)) := by
  obtain ⟨i0, hi0, hz0, hz1, hz2⟩ := info_parts infoStr
  go_enter Try.func86, Try.ntmps86
  go_wp2_with fail
  go_loopw [5, 6, 7] (fun o f i wr => ∃ (k : Nat) (A : Option Addr) (c : Nat), k ≤ s.size ∧ i = .int .i64 k ∧ f = .int .i64 (M.splSt s b k).2 ∧ o = .slice A (M.splSt s b k).1.length c ∧
      K.Row wr w.heap.size 9 1 A (M.splSt s b k).1.length c ((M.splSt s b k).1.map Value.string) ∧ Below w.heap.size w wr) (fun _ _ i _ => s.size - (intOf i).toNat)
  case atStart => exact ⟨0, some ⟨w.heap.size, 0, none⟩, 0, Nat.zero_le _, rfl, rfl, rfl, World.ownsRow_made w #[] 0 (Nat.le_refl _) (Nat.zero_le _) rfl, (Below.refl _ _).alloc (Nat.le_refl _) _⟩
  case round =>
    obtain ⟨k, A, c, hk, rfl, rfl, rfl, hrow, hb⟩ := hrel
    obtain ⟨hl, hf⟩ := M.splSt_bd s b k
    have hbs := hb.size
    by_cases hlt : k < s.size
    · by_cases he : (s[k].toNat : Int) = b
      · have HY := Lib.hid (M.splSt_yes hlt he)
        have he' : ((s[k].toNat : Int) == b) = true := beq_iff_eq.2 he
        clear he
        generalize hF : (M.splSt s b k).2 = F at *
        generalize hL : (M.splSt s b k).1 = L at *
        clear hF hL
        go_wp2_with (at_builtin; refine K.append1 rfl (.tmp 20) (.tmp 25) _ rfl w.heap.size _ i0 _ 1 16 Try.underlying83 hi0 hz0 hz1 hz2 rfl (by omega) A L.length c _ rfl hrow #[.string (s.extract F k)] rfl (by simp [Value.oneCell']) rfl (by simp only [maxLen]; omega) (by omega) hbs ?_; intro g c' w1 hrow1 hb1 _ _ _)
        go_roundw
        case rel => exact ⟨k + 1, some ⟨g, 0, none⟩, c', by omega, by go_num, by rw [HY.out]; simp, by rw [HY.out]; simp, by rw [HY.out]; simpa using hrow1, hb.trans hb1⟩
        case measure => simp [intOf]; omega
      · have HN := Lib.hid (M.splSt_no hlt he)
        have he' : ((s[k].toNat : Int) == b) = false := beq_eq_false_iff_ne.2 he
        clear he
        go_wp2
        go_roundw
        case rel => exact ⟨k + 1, A, c, by omega, by go_num, by rw [HN.out], by rw [HN.out], by rw [HN.out]; exact hrow, hb⟩
        case measure => simp [intOf]; omega
    · obtain rfl : k = s.size := by omega
      have hfin : Hid (M.spl s b = (M.splSt s b s.size).1 ++ [s.extract (M.splSt s b s.size).2 s.size]) := rfl
      generalize hF : (M.splSt s b s.size).2 = F at *
      generalize hL : (M.splSt s b s.size).1 = L at *
      clear hF hL
      go_wp2_with (at_builtin; refine K.append1 rfl (.tmp 29) (.tmp 33) _ rfl w.heap.size _ i0 _ 1 16 Try.underlying83 hi0 hz0 hz1 hz2 rfl (by omega) A L.length c _ rfl hrow #[.string (s.extract F s.size)] rfl (by simp [Value.oneCell']) rfl (by simp only [maxLen]; omega) (by omega) hbs ?_; intro g c' w1 hrow1 hb1 _ _ _)
      go_ret
      have e := hfin.out
      refine ⟨some ⟨g, 0, none⟩, c', ?_, ?_, hb.trans hb1⟩
      · rw [e]; simp
      · rw [e]; simpa using hrow1
end Go.Proofs.Ythlkdaogmcjlbaa.Spl
