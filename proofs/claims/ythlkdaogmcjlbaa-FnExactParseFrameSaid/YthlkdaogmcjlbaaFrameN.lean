/-
  Walks: the number on a frame, standard frames, the value of a rod.
-/
import Derived.Test.YthlkdaogmcjlbaaFrame
import Derived.IntWalk
set_option linter.unusedVariables false
namespace Go.Proofs.Ythlkdaogmcjlbaa.M
def rodV (r : Int × Int) : Int := 5 * r.1 + r.2
def num (l : List (Int × Int)) : Int := l.foldl (fun n r => 10 * n + rodV r) 0
theorem num_succ (l : List (Int × Int)) (k : Nat) (h : k < l.length) : num (l.take (k + 1)) = 10 * num (l.take k) + (5 * l[k].1 + l[k].2) := by
  unfold num; rw [List.take_succ_eq_append_getElem h, List.foldl_append]; rfl
theorem num_bd {f : Frame} (h : f.ok = true) : ∀ k, k ≤ f.rods.length → 0 ≤ num (f.rods.take k) ∧ num (f.rods.take k) + 2 ≤ 2 * 10 ^ k
  | 0, _ => by simp [num]
  | k + 1, hk => by
      have ih := num_bd h k (by omega)
      obtain ⟨⟨a, b⟩, ⟨c, d⟩, -, e⟩ := (Frame.ok_iff f).1 h
      obtain ⟨⟨e1, e2⟩, e3, e4⟩ := e f.rods[k] (List.getElem_mem _)
      rw [num_succ _ _ (by omega), Int.pow_succ]
      omega
theorem num_facts {f : Frame} (h : f.ok = true) : f.rods.length ≤ 8 ∧ ∀ k (hk : k < f.rods.length), 0 ≤ num (f.rods.take k) ∧ num (f.rods.take k) ≤ 200000000 ∧
    num (f.rods.take (k + 1)) = 10 * num (f.rods.take k) + (5 * f.rods[k].1 + f.rods[k].2) ∧ 0 ≤ f.rods[k].1 ∧ f.rods[k].1 ≤ 2 ∧ 0 ≤ f.rods[k].2 ∧ f.rods[k].2 ≤ 5 := by
  obtain ⟨⟨a, b⟩, ⟨c, d⟩, ⟨l1, l2⟩, e⟩ := (Frame.ok_iff f).1 h
  refine ⟨by omega, fun k hk => ?_⟩
  obtain ⟨⟨e1, e2⟩, e3, e4⟩ := e f.rods[k] (List.getElem_mem _)
  have hb := num_bd h k (by omega)
  have hp : (10 : Int) ^ k ≤ 10 ^ 8 := by
    have : (10 : Nat) ^ k ≤ 10 ^ 8 := Nat.pow_le_pow_right (by omega) (by omega)
    exact_mod_cast this
  refine ⟨hb.1, by omega, num_succ _ _ _, e1, by omega, e3, by omega⟩
def numberOn (f : Frame) : Int × Bool := if f.ok = true then (num f.rods, true) else (0, false)
theorem numberOn_yes {f : Frame} (h : f.ok = true) : numberOn f = (num f.rods, true) := by simp [numberOn, h]
theorem numberOn_no {f : Frame} (h : f.ok = false) : numberOn f = (0, false) := by simp [numberOn, h]
def stdRod (r : Int × Int) : Bool := decide (r.1 ≤ 1 ∧ r.2 ≤ 4)
def std (f : Frame) : Bool := f.rods.all stdRod
def isStd (f : Frame) : Bool × Bool := if f.ok = true then (std f, true) else (false, false)
theorem isStd_yes {f : Frame} (h : f.ok = true) : isStd f = (std f, true) := by simp [isStd, h]
theorem isStd_no {f : Frame} (h : f.ok = false) : isStd f = (false, false) := by simp [isStd, h]
def rodVal (f : Frame) (k : Int) : Int × Bool := if f.ok = true ∧ 0 ≤ k ∧ k < f.rods.length then (rodV (f.rods[k.toNat]?.getD (0, 0)), true) else (0, false)
theorem rodVal_yes {f : Frame} (h : f.ok = true) {k : Nat} (hk : k < f.rods.length) : rodVal f k = (5 * f.rods[k].1 + f.rods[k].2, true) := by
  unfold rodVal; rw [if_pos ⟨h, by omega, by omega⟩]; simp [hk, rodV]
theorem rodVal_no {f : Frame} {k : Int} (h : f.ok = false ∨ k < 0 ∨ (f.rods.length : Int) ≤ k) : rodVal f k = (0, false) := by
  unfold rodVal; rw [if_neg]; intro ⟨a, b, c⟩; rcases h with h | h | h
  · rw [a] at h; cases h
  · omega
  · omega
end Go.Proofs.Ythlkdaogmcjlbaa.M

namespace Go.Proofs.Ythlkdaogmcjlbaa.Frame
open Go.RowKit

set_option maxHeartbeats 1000000 in
theorem i_num (f : M.Frame) (A : Option Addr) (c : Nat) (w : World) (hok : f.ok = true) (ha : K.Rd w 2 A f.rods.length (f.rods.flatMap M.rodCells)) :
    Calls Try.prog 93 #[.agg #[.int .i64 f.upper, .int .i64 f.lower, .slice A f.rods.length c]] w fun e w' => e = .returned (.int .i64 (M.num f.rods)) ∧ Below w.heap.size w w' := by
  obtain ⟨hl, hf⟩ := M.num_facts hok
  clear hok
  obtain ⟨u, lo, l⟩ := f
  dsimp only at ha hl hf ⊢
  have ha1 := fun o => ha.alloc o
  go_enter Try.func93, Try.ntmps93
  go_wp2_with fail
  go_loopw [9, 3] (fun i n wr => ∃ k : Nat, k ≤ l.length ∧ i = .int .i64 k ∧ n = .int .i64 (M.num (l.take k)) ∧ Below (w.alloc (.cells #[.int .i64 u, .int .i64 lo, .slice A l.length c] 33)).heap.size (w.alloc (.cells #[.int .i64 u, .int .i64 lo, .slice A l.length c] 33)) wr) (fun i _ _ => l.length - (intOf i).toNat)
  case atStart => exact ⟨0, Nat.zero_le _, rfl, rfl, Below.refl _ _⟩
  case round =>
    obtain ⟨k, hk, rfl, rfl, hq⟩ := hrel
    have hbw : Below w.heap.size w wr := (((Below.refl w.heap.size w).alloc (Nat.le_refl _) _)).trans (hq.mono (by simp))
    by_cases hlt : k < l.length
    · obtain ⟨g, o, rfl, hg, c0, c1⟩ := ((ha1 _).below hq).rod hlt
      have h1 : (k : Int) < (l.length : Int) := by omega
      have h2 : (0 : Int) ≤ (k : Int) := by omega
      obtain ⟨n1, n2, n3, n4, n5, n6, n7⟩ := hf k hlt
      generalize l[k].1 = x at *
      generalize l[k].2 = y at *
      have N3 := Lib.hid n3
      have HQ := Lib.hid hq
      clear n3 hq hbw hf ha ha1
      generalize M.num (l.take k) = m at *
      go_wp2_with fail
      go_roundw
      case rel => exact ⟨k + 1, by omega, by go_num, by rw [N3.out]; congr 1; omega, HQ.out.alloc HQ.out.size _⟩
      case measure => simp [intOf]; omega
    · obtain rfl : k = l.length := by omega
      rw [List.take_length]
      go_wp2_with fail
      go_ret
      exact ⟨rfl, hbw⟩
theorem s_val (x y : Int) (w : World) (h1 : 0 ≤ x) (h2 : x ≤ 2) (h3 : 0 ≤ y) (h4 : y ≤ 5) :
    Calls Try.prog 71 #[.agg #[.int .i64 x, .int .i64 y]] w fun e w' => e = .returned (.int .i64 (5 * x + y)) ∧ Below w.heap.size w w' := by
  go_enter Try.func71, Try.ntmps71
  go_wp2_with fail
  go_ret
  exact ⟨rfl, by (repeat (first | exact Below.refl _ _ | assumption | (refine K.below_drewN ?_ _) | (refine Below.drew ?_) | (refine Below.alloc ?_ (by first | (simp; done) | (simp; omega) | omega) _) | (refine Below.setCell ?_ (by first | (simp; done) | (simp; omega) | omega) _)))⟩
set_option maxHeartbeats 1000000 in
theorem s_num (f : M.Frame) (A : Option Addr) (c : Nat) (w : World) (hok : f.ok = true) (ha : K.Rd w 2 A f.rods.length (f.rods.flatMap M.rodCells)) :
    Calls Try.prog 92 #[.agg #[.int .i64 f.upper, .int .i64 f.lower, .slice A f.rods.length c]] w fun e w' => e = .returned (.int .i64 (M.num f.rods)) ∧ Below w.heap.size w w' := by
  obtain ⟨hl, hf⟩ := M.num_facts hok
  clear hok
  obtain ⟨u, lo, l⟩ := f
  dsimp only at ha hl hf ⊢
  have ha1 := fun o => ha.alloc o
  go_enter Try.func92, Try.ntmps92
  go_wp2_with fail
  go_loopw [4, 3] (fun i n wr => ∃ k : Nat, k ≤ l.length ∧ i = .int .i64 k ∧ n = .int .i64 (M.num (l.take k)) ∧ Below (w.alloc (.cells #[.int .i64 u, .int .i64 lo, .slice A l.length c] 33)).heap.size (w.alloc (.cells #[.int .i64 u, .int .i64 lo, .slice A l.length c] 33)) wr) (fun i _ _ => l.length - (intOf i).toNat)
  case atStart => exact ⟨0, Nat.zero_le _, rfl, rfl, Below.refl _ _⟩
  case round =>
    obtain ⟨k, hk, rfl, rfl, hq⟩ := hrel
    have b2 : wr.cell? ⟨w.heap.size, 2, none⟩ = some (.slice A l.length c) := by rw [hq.cell (by simp)]; simp [go_sem]
    have hz : w.heap.size < wr.heap.size := by have := hq.size; simp only [World.size_alloc] at this; omega
    have hbw : Below w.heap.size w wr := (((Below.refl w.heap.size w).alloc (Nat.le_refl _) _)).trans (hq.mono (by simp))
    by_cases hlt : k < l.length
    · obtain ⟨g, o, rfl, hg, c0, c1⟩ := ((ha1 _).below hq).rod hlt
      have h1 : (k : Int) < (l.length : Int) := by omega
      have h2 : (0 : Int) ≤ (k : Int) := by omega
      obtain ⟨n1, n2, n3, n4, n5, n6, n7⟩ := hf k hlt
      generalize l[k].1 = x at *
      generalize l[k].2 = y at *
      have N3 := Lib.hid n3
      have HQ := Lib.hid hq
      clear n3 hq hbw hf ha ha1
      generalize M.num (l.take k) = m at *
      go_wp2_with fail
      refine (s_val x y _ n4 n5 n6 n7).mono ?_
      rintro e w1 ⟨rfl, b1⟩
      go_wp2_with fail
      go_roundw
      case rel => exact ⟨k + 1, by omega, by go_num, by rw [N3.out], HQ.out.trans (b1.mono HQ.out.size)⟩
      case measure => simp [intOf]; omega
    · obtain rfl : k = l.length := by omega
      rw [List.take_length]
      go_wp2_with fail
      go_ret
      exact ⟨rfl, hbw⟩
set_option maxHeartbeats 1000000 in
theorem i_std (f : M.Frame) (A : Option Addr) (c : Nat) (w : World) (hok : f.ok = true) (ha : K.Rd w 2 A f.rods.length (f.rods.flatMap M.rodCells)) :
    Calls Try.prog 95 #[.agg #[.int .i64 f.upper, .int .i64 f.lower, .slice A f.rods.length c]] w fun e w' => e = .returned (.bool (M.std f)) ∧ Below w.heap.size w w' := by
  have hl : f.rods.length ≤ 8 := (M.num_facts hok).1
  clear hok
  obtain ⟨u, lo, l⟩ := f
  have hF : Hid (M.std (M.Frame.mk u lo l) = l.all M.stdRod) := rfl
  generalize M.std (M.Frame.mk u lo l) = R at hF ⊢
  dsimp only at ha hl ⊢
  have ha1 := fun o => ha.alloc o
  go_enter Try.func95, Try.ntmps95
  go_wp2_with fail
  go_loopw [8] (fun i wr => ∃ k : Nat, k ≤ l.length ∧ i = .int .i64 k ∧ Hid ((l.take k).all M.stdRod = true) ∧ Below (w.alloc (.cells #[.int .i64 u, .int .i64 lo, .slice A l.length c] 33)).heap.size (w.alloc (.cells #[.int .i64 u, .int .i64 lo, .slice A l.length c] 33)) wr) (fun i _ => l.length - (intOf i).toNat)
  case atStart => exact ⟨0, Nat.zero_le _, rfl, Lib.hid (by simp), Below.refl _ _⟩
  case round =>
    obtain ⟨k, hk, rfl, hall, hq⟩ := hrel
    have hbw : Below w.heap.size w wr := (((Below.refl w.heap.size w).alloc (Nat.le_refl _) _)).trans (hq.mono (by simp))
    have hz : (w.alloc (.cells #[.int .i64 u, .int .i64 lo, .slice A l.length c] 33)).heap.size ≤ wr.heap.size := hq.size
    by_cases hlt : k < l.length
    · obtain ⟨g, o, rfl, hg, c0, c1⟩ := ((ha1 _).below hq).rod hlt
      have h1 : (k : Int) < (l.length : Int) := by omega
      have h2 : (0 : Int) ≤ (k : Int) := by omega
      have HA := Lib.hid (M.all_take_succ M.stdRod l k hlt)
      have HX : Hid (M.stdRod l[k] = decide (l[k].1 ≤ 1 ∧ l[k].2 ≤ 4)) := rfl
      generalize M.stdRod l[k] = rk at HA HX
      generalize l[k].1 = x at *
      generalize l[k].2 = y at *
      have HQ := Lib.hid hq
      have HBW := Lib.hid hbw
      have HZ := Lib.hid hz
      clear hq hbw hz ha ha1
      by_cases hx : 1 < x
      · have hd : decide (x ≤ 1) = false := decide_eq_false (by omega)
        have hd2 : decide (1 < x) = true := decide_eq_true hx
        have HK := Lib.hid (show R = false by rw [hF.out, M.all_take_false (k := k + 1) (by rw [HA.out, HX.out]; simp; omega)])
        go_wp2_with fail
        go_ret
        exact ⟨K.ret_bool HK.out.symm, by first | exact HBW.out.alloc (by have := HZ.out; simp at this; omega) _ | exact K.below_drewN (HBW.out.alloc (by have := HZ.out; simp at this; omega) _) _⟩
      · have hd2 : decide (1 < x) = false := decide_eq_false hx
        by_cases hy : 4 < y
        · have hd3 : decide (4 < y) = true := decide_eq_true hy
          have HK := Lib.hid (show R = false by rw [hF.out, M.all_take_false (k := k + 1) (by rw [HA.out, HX.out]; simp; omega)])
          go_wp2_with fail
          go_ret
          exact ⟨K.ret_bool HK.out.symm, by first | exact HBW.out.alloc (by have := HZ.out; simp at this; omega) _ | exact K.below_drewN (HBW.out.alloc (by have := HZ.out; simp at this; omega) _) _⟩
        · have hd3 : decide (4 < y) = false := decide_eq_false hy
          have HK := Lib.hid (show (l.take (k + 1)).all M.stdRod = true by rw [HA.out, HX.out, hall.out]; simp; omega)
          go_wp2_with fail
          go_roundw
          case rel => exact ⟨k + 1, by omega, by go_num, HK, by first | exact HQ.out.alloc HQ.out.size _ | exact K.below_drewN (HQ.out.alloc HQ.out.size _) _⟩
          case measure => simp [intOf]; omega
    · obtain rfl : k = l.length := by omega
      have ha' := hall.out
      rw [List.take_length] at ha'
      have HK := Lib.hid (show R = true from hF.out.trans ha')
      clear ha'
      go_wp2_with fail
      go_ret
      exact ⟨K.ret_bool HK.out.symm, hbw⟩
set_option maxHeartbeats 1000000 in
theorem s_std (f : M.Frame) (A : Option Addr) (c : Nat) (w : World) (hok : f.ok = true) (ha : K.Rd w 2 A f.rods.length (f.rods.flatMap M.rodCells)) :
    Calls Try.prog 94 #[.agg #[.int .i64 f.upper, .int .i64 f.lower, .slice A f.rods.length c]] w fun e w' => e = .returned (.bool (M.std f)) ∧ Below w.heap.size w w' := by
  have hl : f.rods.length ≤ 8 := (M.num_facts hok).1
  have hs := fun w h => s_good f A c w (by omega) h
  rw [hok] at hs
  have HS := Lib.hid hs
  clear hs hok
  obtain ⟨u, lo, l⟩ := f
  have hF : Hid (M.std (M.Frame.mk u lo l) = l.all M.stdRod) := rfl
  generalize M.std (M.Frame.mk u lo l) = R at hF ⊢
  dsimp only at ha hl HS ⊢
  have ha1 := fun o => ha.alloc o
  go_enter Try.func94, Try.ntmps94
  go_wp2_with fail
  go_loopw [3] (fun i wr => ∃ k : Nat, k ≤ l.length ∧ i = .int .i64 k ∧ Hid ((l.take k).all M.stdRod = true) ∧ K.Qt (w.alloc (.cells #[.int .i64 u, .int .i64 lo, .slice A l.length c] 33)) wr) (fun i _ => l.length - (intOf i).toNat)
  case atStart => exact ⟨0, Nat.zero_le _, rfl, Lib.hid (by simp), K.Qt.refl _⟩
  case round =>
    obtain ⟨k, hk, rfl, hall, hq⟩ := hrel
    have b0 : wr.cell? ⟨w.heap.size, 0, none⟩ = some (.int .i64 u) := by rw [hq.cell]; simp [go_sem]
    have b1 : wr.cell? ⟨w.heap.size, 1, none⟩ = some (.int .i64 lo) := by rw [hq.cell]; simp [go_sem]
    have b2 : wr.cell? ⟨w.heap.size, 2, none⟩ = some (.slice A l.length c) := by rw [hq.cell]; simp [go_sem]
    have hbw := (((Below.refl w.heap.size w).alloc (Nat.le_refl _) _)).trans (hq.below w.heap.size)
    by_cases hlt : k < l.length
    · obtain ⟨g, o, rfl, hg, c0, c1⟩ := (hq.rd (ha1 _)).rod hlt
      have h1 : (k : Int) < (l.length : Int) := by omega
      have h2 : (0 : Int) ≤ (k : Int) := by omega
      have HA := Lib.hid (M.all_take_succ M.stdRod l k hlt)
      have HX : Hid (M.stdRod l[k] = decide (l[k].1 ≤ 1 ∧ l[k].2 ≤ 4)) := rfl
      generalize M.stdRod l[k] = rk at HA HX
      generalize l[k].1 = x at *
      generalize l[k].2 = y at *
      by_cases hx : 1 < x
      · have hd2 : decide (1 < x) = true := decide_eq_true hx
        have HK := Lib.hid (show R = false by rw [hF.out, M.all_take_false (k := k + 1) (by rw [HA.out, HX.out]; simp; omega)])
        go_wp2_with fail
        go_ret
        exact ⟨K.ret_bool HK.out.symm, hbw⟩
      · have hd2 : decide (1 < x) = false := decide_eq_false hx
        by_cases hy : 4 < y
        · have hd3 : decide (4 < y) = true := decide_eq_true hy
          have HK := Lib.hid (show R = false by rw [hF.out, M.all_take_false (k := k + 1) (by rw [HA.out, HX.out]; simp; omega)])
          go_wp2_with fail
          go_ret
          exact ⟨K.ret_bool HK.out.symm, hbw⟩
        · have hd3 : decide (4 < y) = false := decide_eq_false hy
          have HK := Lib.hid (show (l.take (k + 1)).all M.stdRod = true by rw [HA.out, HX.out, hall.out]; simp; omega)
          go_wp2_with fail
          go_roundw
          case rel => exact ⟨k + 1, by omega, by go_num, HK, hq⟩
          case measure => simp [intOf]; omega
    · obtain rfl : k = l.length := by omega
      have ha' := hall.out
      rw [List.take_length] at ha'
      have HK := Lib.hid (show R = true from hF.out.trans ha')
      have hr := hq.rd (ha1 _)
      clear ha' ha ha1
      go_wp2_with fail
      refine (HS.out _ hr).mono ?_
      rintro e w1 ⟨rfl, bb⟩
      have hb2 := hbw.trans (bb.mono hbw.size)
      clear bb
      go_wp2_with fail
      go_ret
      exact ⟨K.ret_bool HK.out.symm, hb2⟩
--@@ one frame
theorem s_numberOn (f : M.Frame) (A : Option Addr) (c : Nat) (w : World) (hl : f.rods.length ≤ 1048576) (ha : K.Rd w 2 A f.rods.length (f.rods.flatMap M.rodCells)) :
    Calls Try.prog 48 #[.agg #[.int .i64 f.upper, .int .i64 f.lower, .slice A f.rods.length c]] w fun e w' => e = .returned (.tuple #[.int .i64 (M.numberOn f).1, .bool (M.numberOn f).2]) ∧ Below w.heap.size w w' := by
  obtain ⟨o, ho⟩ : ∃ o : Obj, o = .cells #[.int .i64 f.upper, .int .i64 f.lower, .slice A f.rods.length c] 33 := ⟨_, rfl⟩
  have r0 := ha.alloc o
  have x0 : K.Box (w.alloc o) w.heap.size [.int .i64 f.upper, .int .i64 f.lower, .slice A f.rods.length c] := by rw [ho]; exact K.Box.new _ _ _
  have b0 : Below w.heap.size w (w.alloc o) := (Below.refl w.heap.size w).alloc (Nat.le_refl _) _
  subst ho
  cases hok : f.ok with
  | false =>
    have HS := Lib.hid (s_good f A c _ hl r0)
    rw [hok] at HS
    rw [M.numberOn_no hok]
    clear hok
    go_enter Try.func48, Try.ntmps48
    go_wp2_with fail
    refine HS.out.mono ?_
    rintro e w1 ⟨rfl, b1⟩
    have hb := b0.trans (b1.mono b0.size)
    clear b0 b1
    go_wp2_with fail
    go_ret2
    exact ⟨rfl, hb⟩
  | true =>
    have HS := Lib.hid (s_good f A c _ hl r0)
    rw [hok] at HS
    have HN := Lib.hid (fun w h => s_num f A c w hok h)
    rw [M.numberOn_yes hok]
    clear hok
    go_enter Try.func48, Try.ntmps48
    go_wp2_with fail
    refine HS.out.mono ?_
    rintro e w1 ⟨rfl, b1⟩
    have hb := b0.trans (b1.mono b0.size)
    have x1 := x0.below b1
    have r1 := r0.below b1
    obtain ⟨q0, q1, q2⟩ := x1.c3
    have xg := x1.1
    clear b0 b1 x0 r0
    go_wp2_with fail
    refine (HN.out _ r1).mono ?_
    rintro e w2 ⟨rfl, b2⟩
    have hb2 := hb.trans (b2.mono hb.size)
    clear hb b2
    go_wp2_with fail
    go_ret2
    exact ⟨rfl, hb2⟩
theorem s_isstd (f : M.Frame) (A : Option Addr) (c : Nat) (w : World) (hl : f.rods.length ≤ 1048576) (ha : K.Rd w 2 A f.rods.length (f.rods.flatMap M.rodCells)) :
    Calls Try.prog 50 #[.agg #[.int .i64 f.upper, .int .i64 f.lower, .slice A f.rods.length c]] w fun e w' => e = .returned (.tuple #[.bool (M.isStd f).1, .bool (M.isStd f).2]) ∧ Below w.heap.size w w' := by
  obtain ⟨o, ho⟩ : ∃ o : Obj, o = .cells #[.int .i64 f.upper, .int .i64 f.lower, .slice A f.rods.length c] 33 := ⟨_, rfl⟩
  have r0 := ha.alloc o
  have x0 : K.Box (w.alloc o) w.heap.size [.int .i64 f.upper, .int .i64 f.lower, .slice A f.rods.length c] := by rw [ho]; exact K.Box.new _ _ _
  have b0 : Below w.heap.size w (w.alloc o) := (Below.refl w.heap.size w).alloc (Nat.le_refl _) _
  subst ho
  cases hok : f.ok with
  | false =>
    have HS := Lib.hid (s_good f A c _ hl r0)
    rw [hok] at HS
    rw [M.isStd_no hok]
    clear hok
    go_enter Try.func50, Try.ntmps50
    go_wp2_with fail
    refine HS.out.mono ?_
    rintro e w1 ⟨rfl, b1⟩
    have hb := b0.trans (b1.mono b0.size)
    clear b0 b1
    go_wp2_with fail
    go_ret2
    exact ⟨rfl, hb⟩
  | true =>
    have HS := Lib.hid (s_good f A c _ hl r0)
    rw [hok] at HS
    have HN := Lib.hid (fun w h => s_std f A c w hok h)
    rw [M.isStd_yes hok]
    clear hok
    go_enter Try.func50, Try.ntmps50
    go_wp2_with fail
    refine HS.out.mono ?_
    rintro e w1 ⟨rfl, b1⟩
    have hb := b0.trans (b1.mono b0.size)
    have x1 := x0.below b1
    have r1 := r0.below b1
    obtain ⟨q0, q1, q2⟩ := x1.c3
    have xg := x1.1
    clear b0 b1 x0 r0
    go_wp2_with fail
    refine (HN.out _ r1).mono ?_
    rintro e w2 ⟨rfl, b2⟩
    have hb2 := hb.trans (b2.mono hb.size)
    clear hb b2
    go_wp2_with fail
    go_ret2
    exact ⟨rfl, hb2⟩
theorem i_numberOn (f : M.Frame) (A : Option Addr) (c : Nat) (w : World) (hl : f.rods.length ≤ 1048576) (ha : K.Rd w 2 A f.rods.length (f.rods.flatMap M.rodCells)) :
    Calls Try.prog 49 #[.agg #[.int .i64 f.upper, .int .i64 f.lower, .slice A f.rods.length c]] w fun e w' => e = .returned (.tuple #[.int .i64 (M.numberOn f).1, .bool (M.numberOn f).2]) ∧ Below w.heap.size w w' := by
  obtain ⟨o, ho⟩ : ∃ o : Obj, o = .cells #[.int .i64 f.upper, .int .i64 f.lower, .slice A f.rods.length c] 33 := ⟨_, rfl⟩
  have r0 := ha.alloc o
  have x0 : K.Box (w.alloc o) w.heap.size [.int .i64 f.upper, .int .i64 f.lower, .slice A f.rods.length c] := by rw [ho]; exact K.Box.new _ _ _
  have b0 : Below w.heap.size w (w.alloc o) := (Below.refl w.heap.size w).alloc (Nat.le_refl _) _
  subst ho
  cases hok : f.ok with
  | false =>
    have HS := Lib.hid (i_isframe f A c _ hl r0)
    rw [hok] at HS
    rw [M.numberOn_no hok]
    clear hok
    go_enter Try.func49, Try.ntmps49
    go_wp2_with fail
    refine HS.out.mono ?_
    rintro e w1 ⟨rfl, b1⟩
    have hb := b0.trans (b1.mono b0.size)
    clear b0 b1
    go_wp2_with fail
    go_ret2
    exact ⟨rfl, hb⟩
  | true =>
    have HS := Lib.hid (i_isframe f A c _ hl r0)
    rw [hok] at HS
    have HN := Lib.hid (fun w h => i_num f A c w hok h)
    rw [M.numberOn_yes hok]
    clear hok
    go_enter Try.func49, Try.ntmps49
    go_wp2_with fail
    refine HS.out.mono ?_
    rintro e w1 ⟨rfl, b1⟩
    have hb := b0.trans (b1.mono b0.size)
    have x1 := x0.below b1
    have r1 := r0.below b1
    obtain ⟨q0, q1, q2⟩ := x1.c3
    have xg := x1.1
    clear b0 b1 x0 r0
    go_wp2_with fail
    refine (HN.out _ r1).mono ?_
    rintro e w2 ⟨rfl, b2⟩
    have hb2 := hb.trans (b2.mono hb.size)
    clear hb b2
    go_wp2_with fail
    go_ret2
    exact ⟨rfl, hb2⟩
theorem i_isstd (f : M.Frame) (A : Option Addr) (c : Nat) (w : World) (hl : f.rods.length ≤ 1048576) (ha : K.Rd w 2 A f.rods.length (f.rods.flatMap M.rodCells)) :
    Calls Try.prog 51 #[.agg #[.int .i64 f.upper, .int .i64 f.lower, .slice A f.rods.length c]] w fun e w' => e = .returned (.tuple #[.bool (M.isStd f).1, .bool (M.isStd f).2]) ∧ Below w.heap.size w w' := by
  obtain ⟨o, ho⟩ : ∃ o : Obj, o = .cells #[.int .i64 f.upper, .int .i64 f.lower, .slice A f.rods.length c] 33 := ⟨_, rfl⟩
  have r0 := ha.alloc o
  have x0 : K.Box (w.alloc o) w.heap.size [.int .i64 f.upper, .int .i64 f.lower, .slice A f.rods.length c] := by rw [ho]; exact K.Box.new _ _ _
  have b0 : Below w.heap.size w (w.alloc o) := (Below.refl w.heap.size w).alloc (Nat.le_refl _) _
  subst ho
  cases hok : f.ok with
  | false =>
    have HS := Lib.hid (i_isframe f A c _ hl r0)
    rw [hok] at HS
    rw [M.isStd_no hok]
    clear hok
    go_enter Try.func51, Try.ntmps51
    go_wp2_with fail
    refine HS.out.mono ?_
    rintro e w1 ⟨rfl, b1⟩
    have hb := b0.trans (b1.mono b0.size)
    clear b0 b1
    go_wp2_with fail
    go_ret2
    exact ⟨rfl, hb⟩
  | true =>
    have HS := Lib.hid (i_isframe f A c _ hl r0)
    rw [hok] at HS
    have HN := Lib.hid (fun w h => i_std f A c w hok h)
    rw [M.isStd_yes hok]
    clear hok
    go_enter Try.func51, Try.ntmps51
    go_wp2_with fail
    refine HS.out.mono ?_
    rintro e w1 ⟨rfl, b1⟩
    have hb := b0.trans (b1.mono b0.size)
    have x1 := x0.below b1
    have r1 := r0.below b1
    obtain ⟨q0, q1, q2⟩ := x1.c3
    have xg := x1.1
    clear b0 b1 x0 r0
    go_wp2_with fail
    refine (HN.out _ r1).mono ?_
    rintro e w2 ⟨rfl, b2⟩
    have hb2 := hb.trans (b2.mono hb.size)
    clear hb b2
    go_wp2_with fail
    go_ret2
    exact ⟨rfl, hb2⟩
--@@ end
theorem i_has (f : M.Frame) (A : Option Addr) (c : Nat) (k : Int) (w : World) (hl : f.rods.length ≤ 1048576) (hk : M.i64 k) :
    Calls Try.prog 72 #[.agg #[.int .i64 f.upper, .int .i64 f.lower, .slice A f.rods.length c], .int .i64 k] w fun e w' => e = .returned (.bool (M.inR k 0 ((f.rods.length : Int) - 1))) ∧ Below w.heap.size w w' := by
  obtain ⟨k1, k2⟩ := hk
  go_enter Try.func72, Try.ntmps72
  go_wp2_with fail
  refine (Base.i_within _ _ _ _).mono ?_
  rintro e w1 ⟨rfl, rfl⟩
  go_wp2
  go_ret
  exact ⟨rfl, by (repeat (first | exact Below.refl _ _ | assumption | (refine K.below_drewN ?_ _) | (refine Below.drew ?_) | (refine Below.alloc ?_ (by first | (simp; done) | (simp; omega) | omega) _) | (refine Below.setCell ?_ (by first | (simp; done) | (simp; omega) | omega) _)))⟩
theorem s_has (f : M.Frame) (A : Option Addr) (c : Nat) (k : Int) (w : World) (hl : f.rods.length ≤ 1048576) (hk : M.i64 k) (ha : K.Rd w 2 A f.rods.length (f.rods.flatMap M.rodCells)) :
    Calls Try.prog 70 #[.agg #[.int .i64 f.upper, .int .i64 f.lower, .slice A f.rods.length c], .int .i64 k] w fun e w' => e = .returned (.bool (f.ok && M.inR k 0 ((f.rods.length : Int) - 1))) ∧ Below w.heap.size w w' := by
  obtain ⟨k1, k2⟩ := hk
  obtain ⟨o, ho⟩ : ∃ o : Obj, o = .cells #[.int .i64 f.upper, .int .i64 f.lower, .slice A f.rods.length c] 33 := ⟨_, rfl⟩
  have r0 := ha.alloc o
  have x0 : K.Box (w.alloc o) w.heap.size [.int .i64 f.upper, .int .i64 f.lower, .slice A f.rods.length c] := by rw [ho]; exact K.Box.new _ _ _
  have b0 : Below w.heap.size w (w.alloc o) := (Below.refl w.heap.size w).alloc (Nat.le_refl _) _
  subst ho
  have HS := Lib.hid (s_good f A c _ hl r0)
  cases hok : f.ok with
  | false =>
    rw [hok] at HS
    clear hok
    go_enter Try.func70, Try.ntmps70
    go_wp2_with fail
    refine HS.out.mono ?_
    rintro e w1 ⟨rfl, b1⟩
    have hb := b0.trans (b1.mono b0.size)
    clear b0 b1
    go_wp2_with fail
    go_ret
    exact ⟨by simp, hb⟩
  | true =>
    rw [hok] at HS
    clear hok
    go_enter Try.func70, Try.ntmps70
    go_wp2_with fail
    refine HS.out.mono ?_
    rintro e w1 ⟨rfl, b1⟩
    have hb := b0.trans (b1.mono b0.size)
    have x1 := x0.below b1
    obtain ⟨q0, q1, q2⟩ := x1.c3
    have xg := x1.1
    clear b0 b1 x0
    go_wp2_with fail
    refine (Base.s_in _ _ _ _).mono ?_
    rintro e w2 ⟨rfl, rfl⟩
    go_wp2_with fail
    go_ret
    exact ⟨by simp, hb⟩
theorem s_rodval (f : M.Frame) (A : Option Addr) (c : Nat) (k : Int) (w : World) (hl : f.rods.length ≤ 1048576) (hk : M.i64 k) (ha : K.Rd w 2 A f.rods.length (f.rods.flatMap M.rodCells)) :
    Calls Try.prog 26 #[.agg #[.int .i64 f.upper, .int .i64 f.lower, .slice A f.rods.length c], .int .i64 k] w fun e w' => e = .returned (.tuple #[.int .i64 (M.rodVal f k).1, .bool (M.rodVal f k).2]) ∧ Below w.heap.size w w' := by
  obtain ⟨o, ho⟩ : ∃ o : Obj, o = .cells #[.int .i64 f.upper, .int .i64 f.lower, .slice A f.rods.length c] 33 := ⟨_, rfl⟩
  have r0 := ha.alloc o
  have x0 : K.Box (w.alloc o) w.heap.size [.int .i64 f.upper, .int .i64 f.lower, .slice A f.rods.length c] := by rw [ho]; exact K.Box.new _ _ _
  have b0 : Below w.heap.size w (w.alloc o) := (Below.refl w.heap.size w).alloc (Nat.le_refl _) _
  subst ho
  have HS := Lib.hid (s_has f A c k _ hl hk r0)
  by_cases h : f.ok = true ∧ 0 ≤ k ∧ k < f.rods.length
  · obtain ⟨hok, h1, h2⟩ := h
    rw [hok, M.inR_yes h1 (by omega), Bool.and_true] at HS
    obtain ⟨j, rfl⟩ := Int.eq_ofNat_of_zero_le h1
    have hj : j < f.rods.length := by omega
    rw [M.rodVal_yes hok hj]
    obtain ⟨hl8, hf⟩ := M.num_facts hok
    obtain ⟨-, -, -, n4, n5, n6, n7⟩ := hf j hj
    have HR := fun (w' : World) (h : K.Rd w' 2 A f.rods.length (f.rods.flatMap M.rodCells)) => h.rod hj
    generalize f.rods[j].1 = x at *
    generalize f.rods[j].2 = y at *
    clear hf hok
    go_enter Try.func26, Try.ntmps26
    go_wp2_with fail
    refine HS.out.mono ?_
    rintro e w1 ⟨rfl, b1⟩
    have hb := b0.trans (b1.mono b0.size)
    have x1 := x0.below b1
    obtain ⟨g, o1, rfl, hg, c0, c1⟩ := HR _ (r0.below b1)
    obtain ⟨q0, q1, q2⟩ := x1.c3
    have xg := x1.1
    clear b0 b1 x0 r0 HS ha
    go_wp2_with fail
    refine (s_val x y _ n4 n5 n6 n7).mono ?_
    rintro e w2 ⟨rfl, b2⟩
    have hb2 := hb.trans (b2.mono hb.size)
    clear hb b2
    go_wp2_with fail
    go_ret2
    exact ⟨rfl, hb2⟩
  · have hn : f.ok = false ∨ k < 0 ∨ (f.rods.length : Int) ≤ k := by
      cases hok : f.ok with
      | false => exact .inl rfl
      | true => right; rw [hok] at h; simp at h; omega
    have hb : (f.ok && M.inR k 0 ((f.rods.length : Int) - 1)) = false := by
      rcases hn with hn | hn
      · rw [hn]; rfl
      · rw [M.inR_no (by omega)]; simp
    rw [hb] at HS
    rw [M.rodVal_no hn]
    clear hn hb h
    go_enter Try.func26, Try.ntmps26
    go_wp2_with fail
    refine HS.out.mono ?_
    rintro e w1 ⟨rfl, b1⟩
    have hb := b0.trans (b1.mono b0.size)
    clear b0 b1
    go_wp2_with fail
    go_ret2
    exact ⟨rfl, hb⟩
theorem i_rodval (f : M.Frame) (A : Option Addr) (c : Nat) (k : Int) (w : World) (hl : f.rods.length ≤ 1048576) (hk : M.i64 k) (ha : K.Rd w 2 A f.rods.length (f.rods.flatMap M.rodCells)) :
    Calls Try.prog 27 #[.agg #[.int .i64 f.upper, .int .i64 f.lower, .slice A f.rods.length c], .int .i64 k] w fun e w' => e = .returned (.tuple #[.int .i64 (M.rodVal f k).1, .bool (M.rodVal f k).2]) ∧ Below w.heap.size w w' := by
  obtain ⟨o, ho⟩ : ∃ o : Obj, o = .cells #[.int .i64 f.upper, .int .i64 f.lower, .slice A f.rods.length c] 33 := ⟨_, rfl⟩
  have r0 := ha.alloc o
  have x0 : K.Box (w.alloc o) w.heap.size [.int .i64 f.upper, .int .i64 f.lower, .slice A f.rods.length c] := by rw [ho]; exact K.Box.new _ _ _
  have b0 : Below w.heap.size w (w.alloc o) := (Below.refl w.heap.size w).alloc (Nat.le_refl _) _
  subst ho
  have HS := Lib.hid (i_isframe f A c _ hl r0)
  have HH := Lib.hid (fun w => i_has f A c k w hl hk)
  cases hok : f.ok with
  | false =>
    rw [hok] at HS
    rw [M.rodVal_no (.inl hok)]
    clear hok
    go_enter Try.func27, Try.ntmps27
    go_wp2_with fail
    refine HS.out.mono ?_
    rintro e w1 ⟨rfl, b1⟩
    have hb := b0.trans (b1.mono b0.size)
    clear b0 b1
    go_wp2_with fail
    go_ret2
    exact ⟨rfl, hb⟩
  | true =>
    rw [hok] at HS
    by_cases h : 0 ≤ k ∧ k < f.rods.length
    · obtain ⟨h1, h2⟩ := h
      rw [M.inR_yes h1 (by omega)] at HH
      obtain ⟨j, rfl⟩ := Int.eq_ofNat_of_zero_le h1
      have hj : j < f.rods.length := by omega
      rw [M.rodVal_yes hok hj]
      obtain ⟨hl8, hf⟩ := M.num_facts hok
      obtain ⟨-, -, -, n4, n5, n6, n7⟩ := hf j hj
      have HR := fun (w' : World) (h : K.Rd w' 2 A f.rods.length (f.rods.flatMap M.rodCells)) => h.rod hj
      generalize f.rods[j].1 = x at *
      generalize f.rods[j].2 = y at *
      clear hf hok
      go_enter Try.func27, Try.ntmps27
      go_wp2_with fail
      refine HS.out.mono ?_
      rintro e w1 ⟨rfl, b1⟩
      have hb := b0.trans (b1.mono b0.size)
      have x1 := x0.below b1
      have r1 := r0.below b1
      obtain ⟨q0, q1, q2⟩ := x1.c3
      have xg := x1.1
      clear b0 b1 x0 r0
      go_wp2_with fail
      refine (HH.out _).mono ?_
      rintro e w2 ⟨rfl, b2⟩
      have hb2 := hb.trans (b2.mono hb.size)
      have x2 := x1.below b2
      obtain ⟨g, o1, rfl, hg, c0, c1⟩ := HR _ (r1.below b2)
      clear q0 q1 q2 xg
      obtain ⟨q0, q1, q2⟩ := x2.c3
      have xg := x2.1
      clear hb b2 x1 r1 HS HH ha
      go_wp2_with fail
      go_quiet (fail)
      go_wp2_with fail
      go_ret2
      exact ⟨rfl, K.below_drewN hb2 _⟩
    · rw [M.inR_no (by omega)] at HH
      rw [M.rodVal_no (.inr (by omega))]
      clear hok
      go_enter Try.func27, Try.ntmps27
      go_wp2_with fail
      refine HS.out.mono ?_
      rintro e w1 ⟨rfl, b1⟩
      have hb := b0.trans (b1.mono b0.size)
      have x1 := x0.below b1
      obtain ⟨q0, q1, q2⟩ := x1.c3
      have xg := x1.1
      clear b0 b1 x0 r0
      go_wp2_with fail
      refine (HH.out _).mono ?_
      rintro e w2 ⟨rfl, b2⟩
      have hb2 := hb.trans (b2.mono hb.size)
      clear hb b2 x1
      go_wp2_with fail
      go_ret2
      exact ⟨rfl, hb2⟩
end Go.Proofs.Ythlkdaogmcjlbaa.Frame
