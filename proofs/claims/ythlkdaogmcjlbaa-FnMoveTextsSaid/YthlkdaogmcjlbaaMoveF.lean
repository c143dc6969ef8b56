/-
  Walks: moves, in the program and in the reference.
-/
import Derived.Test.YthlkdaogmcjlbaaBase
import Derived.Test.YthlkdaogmcjlbaaKit2
set_option linter.unusedVariables false
namespace Go.Proofs.Ythlkdaogmcjlbaa.M
def Move.ok (m : Move) : Bool := inR m.rod 0 7 && inR m.part 0 1 && inR m.by_ (-5) 5 && (m.by_ != 0)
theorem Move.ok_iff (m : Move) : m.ok = true ↔ (0 ≤ m.rod ∧ m.rod ≤ 7) ∧ (0 ≤ m.part ∧ m.part ≤ 1) ∧ (-5 ≤ m.by_ ∧ m.by_ ≤ 5) ∧ m.by_ ≠ 0 := by
  simp [Move.ok, inR_iff, and_assoc]
def movesOk (l : List Move) : Bool := decide (l.length ≤ 60) && l.all Move.ok
theorem movesOk_iff (l : List Move) : movesOk l = true ↔ l.length ≤ 60 ∧ ∀ m ∈ l, m.ok = true := by simp [movesOk]
theorem movesOk_at {l : List Move} (h : movesOk l = true) {k : Nat} (hk : k < l.length) : (0 ≤ l[k].rod ∧ l[k].rod ≤ 7) ∧ (0 ≤ l[k].part ∧ l[k].part ≤ 1) ∧ (-5 ≤ l[k].by_ ∧ l[k].by_ ≤ 5) ∧ l[k].by_ ≠ 0 :=
  (Move.ok_iff _).1 (((movesOk_iff l).1 h).2 _ (List.getElem_mem _))
end Go.Proofs.Ythlkdaogmcjlbaa.M
namespace Go.Proofs.Ythlkdaogmcjlbaa.MoveF
open Go.RowKit
set_option maxHeartbeats 1000000 in
theorem i_one (p : M.Move) (w : World) :
    Calls Try.prog 20 #[.agg #[.int .i64 p.rod, .int .i64 p.part, .int .i64 p.by_]] w fun e w' => e = .returned (.bool p.ok) ∧ Below w.heap.size w w' := by
  obtain ⟨x, y, z⟩ := p
  have hF : Hid ((M.Move.mk x y z).ok = (M.inR x 0 7 && M.inR y 0 1 && M.inR z (-5) 5 && (z != 0))) := rfl
  generalize (M.Move.mk x y z).ok = R at hF ⊢
  dsimp only
  by_cases hx : 0 ≤ x ∧ x ≤ 7
  · by_cases hy : 0 ≤ y ∧ y ≤ 1
    · by_cases hz : -5 ≤ z ∧ z ≤ 5
      · by_cases h0 : z = 0
        · subst h0
          have HK := Lib.hid (show R = false by rw [hF.out]; simp [M.inR] <;> omega)
          clear hF
          go_enter Try.func20, Try.ntmps20
          go_wp2_with (go_at_call 65; first | (refine (Base.i_within_yes _ _ _ _ (by omega) (by omega)).mono ?_; rintro e w1 ⟨rfl, rfl⟩) | (refine (Base.i_within_no _ _ _ _ (by omega)).mono ?_; rintro e w1 ⟨rfl, rfl⟩))
          go_ret
          exact ⟨K.ret_bool HK.out.symm, by (repeat (first | exact Below.refl _ _ | assumption | (refine K.below_drewN ?_ _) | (refine Below.drew ?_) | (refine Below.alloc ?_ (by first | (simp; done) | (simp; omega) | omega) _) | (refine Below.setCell ?_ (by first | (simp; done) | (simp; omega) | omega) _)))⟩
        · have hz0 : (z != 0) = true := bne_iff_ne.2 h0
          have HK := Lib.hid (show R = true by rw [hF.out]; simp [M.inR] <;> omega)
          clear hF
          go_enter Try.func20, Try.ntmps20
          go_wp2_with (go_at_call 65; first | (refine (Base.i_within_yes _ _ _ _ (by omega) (by omega)).mono ?_; rintro e w1 ⟨rfl, rfl⟩) | (refine (Base.i_within_no _ _ _ _ (by omega)).mono ?_; rintro e w1 ⟨rfl, rfl⟩))
          go_ret
          exact ⟨K.ret_bool HK.out.symm, by (repeat (first | exact Below.refl _ _ | assumption | (refine K.below_drewN ?_ _) | (refine Below.drew ?_) | (refine Below.alloc ?_ (by first | (simp; done) | (simp; omega) | omega) _) | (refine Below.setCell ?_ (by first | (simp; done) | (simp; omega) | omega) _)))⟩
      · obtain ⟨hx1, hx2⟩ := hx
        have HK := Lib.hid (show R = false by rw [hF.out]; simp [M.inR] <;> omega)
        clear hF
        go_enter Try.func20, Try.ntmps20
        go_wp2_with (go_at_call 65; first | (refine (Base.i_within_yes _ _ _ _ (by omega) (by omega)).mono ?_; rintro e w1 ⟨rfl, rfl⟩) | (refine (Base.i_within_no _ _ _ _ (by omega)).mono ?_; rintro e w1 ⟨rfl, rfl⟩))
        go_ret
        exact ⟨K.ret_bool HK.out.symm, by (repeat (first | exact Below.refl _ _ | assumption | (refine K.below_drewN ?_ _) | (refine Below.drew ?_) | (refine Below.alloc ?_ (by first | (simp; done) | (simp; omega) | omega) _) | (refine Below.setCell ?_ (by first | (simp; done) | (simp; omega) | omega) _)))⟩
    · obtain ⟨hx1, hx2⟩ := hx
      have HK := Lib.hid (show R = false by rw [hF.out]; simp [M.inR] <;> omega)
      clear hF
      go_enter Try.func20, Try.ntmps20
      go_wp2_with (go_at_call 65; first | (refine (Base.i_within_yes _ _ _ _ (by omega) (by omega)).mono ?_; rintro e w1 ⟨rfl, rfl⟩) | (refine (Base.i_within_no _ _ _ _ (by omega)).mono ?_; rintro e w1 ⟨rfl, rfl⟩))
      go_ret
      exact ⟨K.ret_bool HK.out.symm, by (repeat (first | exact Below.refl _ _ | assumption | (refine K.below_drewN ?_ _) | (refine Below.drew ?_) | (refine Below.alloc ?_ (by first | (simp; done) | (simp; omega) | omega) _) | (refine Below.setCell ?_ (by first | (simp; done) | (simp; omega) | omega) _)))⟩
  · skip
    have HK := Lib.hid (show R = false by rw [hF.out]; simp [M.inR] <;> omega)
    clear hF
    go_enter Try.func20, Try.ntmps20
    go_wp2_with (go_at_call 65; first | (refine (Base.i_within_yes _ _ _ _ (by omega) (by omega)).mono ?_; rintro e w1 ⟨rfl, rfl⟩) | (refine (Base.i_within_no _ _ _ _ (by omega)).mono ?_; rintro e w1 ⟨rfl, rfl⟩))
    go_ret
    exact ⟨K.ret_bool HK.out.symm, by (repeat (first | exact Below.refl _ _ | assumption | (refine K.below_drewN ?_ _) | (refine Below.drew ?_) | (refine Below.alloc ?_ (by first | (simp; done) | (simp; omega) | omega) _) | (refine Below.setCell ?_ (by first | (simp; done) | (simp; omega) | omega) _)))⟩
set_option maxHeartbeats 1000000 in
theorem s_one (p : M.Move) (w : World) :
    Calls Try.prog 64 #[.agg #[.int .i64 p.rod, .int .i64 p.part, .int .i64 p.by_]] w fun e w' => e = .returned (.bool p.ok) ∧ Below w.heap.size w w' := by
  obtain ⟨x, y, z⟩ := p
  have hF : Hid ((M.Move.mk x y z).ok = (M.inR x 0 7 && M.inR y 0 1 && M.inR z (-5) 5 && (z != 0))) := rfl
  generalize (M.Move.mk x y z).ok = R at hF ⊢
  dsimp only
  by_cases hx : 0 ≤ x ∧ x ≤ 7
  · by_cases hy : 0 ≤ y ∧ y ≤ 1
    · by_cases hz : -5 ≤ z ∧ z ≤ 5
      · by_cases h0 : z = 0
        · subst h0
          have HK := Lib.hid (show R = false by rw [hF.out]; simp [M.inR] <;> omega)
          clear hF
          go_enter Try.func64, Try.ntmps64
          go_wp2_with (go_at_call 89; first | (refine (Base.s_in_yes _ _ _ _ (by omega) (by omega)).mono ?_; rintro e w1 ⟨rfl, rfl⟩) | (refine (Base.s_in_no _ _ _ _ (by omega)).mono ?_; rintro e w1 ⟨rfl, rfl⟩))
          go_ret
          exact ⟨K.ret_bool HK.out.symm, by (repeat (first | exact Below.refl _ _ | assumption | (refine K.below_drewN ?_ _) | (refine Below.drew ?_) | (refine Below.alloc ?_ (by first | (simp; done) | (simp; omega) | omega) _) | (refine Below.setCell ?_ (by first | (simp; done) | (simp; omega) | omega) _)))⟩
        · have hz0 : (z != 0) = true := bne_iff_ne.2 h0
          have HK := Lib.hid (show R = true by rw [hF.out]; simp [M.inR] <;> omega)
          clear hF
          go_enter Try.func64, Try.ntmps64
          go_wp2_with (go_at_call 89; first | (refine (Base.s_in_yes _ _ _ _ (by omega) (by omega)).mono ?_; rintro e w1 ⟨rfl, rfl⟩) | (refine (Base.s_in_no _ _ _ _ (by omega)).mono ?_; rintro e w1 ⟨rfl, rfl⟩))
          go_ret
          exact ⟨K.ret_bool HK.out.symm, by (repeat (first | exact Below.refl _ _ | assumption | (refine K.below_drewN ?_ _) | (refine Below.drew ?_) | (refine Below.alloc ?_ (by first | (simp; done) | (simp; omega) | omega) _) | (refine Below.setCell ?_ (by first | (simp; done) | (simp; omega) | omega) _)))⟩
      · obtain ⟨hx1, hx2⟩ := hx
        have HK := Lib.hid (show R = false by rw [hF.out]; simp [M.inR] <;> omega)
        clear hF
        go_enter Try.func64, Try.ntmps64
        go_wp2_with (go_at_call 89; first | (refine (Base.s_in_yes _ _ _ _ (by omega) (by omega)).mono ?_; rintro e w1 ⟨rfl, rfl⟩) | (refine (Base.s_in_no _ _ _ _ (by omega)).mono ?_; rintro e w1 ⟨rfl, rfl⟩))
        go_ret
        exact ⟨K.ret_bool HK.out.symm, by (repeat (first | exact Below.refl _ _ | assumption | (refine K.below_drewN ?_ _) | (refine Below.drew ?_) | (refine Below.alloc ?_ (by first | (simp; done) | (simp; omega) | omega) _) | (refine Below.setCell ?_ (by first | (simp; done) | (simp; omega) | omega) _)))⟩
    · obtain ⟨hx1, hx2⟩ := hx
      have HK := Lib.hid (show R = false by rw [hF.out]; simp [M.inR] <;> omega)
      clear hF
      go_enter Try.func64, Try.ntmps64
      go_wp2_with (go_at_call 89; first | (refine (Base.s_in_yes _ _ _ _ (by omega) (by omega)).mono ?_; rintro e w1 ⟨rfl, rfl⟩) | (refine (Base.s_in_no _ _ _ _ (by omega)).mono ?_; rintro e w1 ⟨rfl, rfl⟩))
      go_ret
      exact ⟨K.ret_bool HK.out.symm, by (repeat (first | exact Below.refl _ _ | assumption | (refine K.below_drewN ?_ _) | (refine Below.drew ?_) | (refine Below.alloc ?_ (by first | (simp; done) | (simp; omega) | omega) _) | (refine Below.setCell ?_ (by first | (simp; done) | (simp; omega) | omega) _)))⟩
  · skip
    have HK := Lib.hid (show R = false by rw [hF.out]; simp [M.inR] <;> omega)
    clear hF
    go_enter Try.func64, Try.ntmps64
    go_wp2_with (go_at_call 89; first | (refine (Base.s_in_yes _ _ _ _ (by omega) (by omega)).mono ?_; rintro e w1 ⟨rfl, rfl⟩) | (refine (Base.s_in_no _ _ _ _ (by omega)).mono ?_; rintro e w1 ⟨rfl, rfl⟩))
    go_ret
    exact ⟨K.ret_bool HK.out.symm, by (repeat (first | exact Below.refl _ _ | assumption | (refine K.below_drewN ?_ _) | (refine Below.drew ?_) | (refine Below.alloc ?_ (by first | (simp; done) | (simp; omega) | omega) _) | (refine Below.setCell ?_ (by first | (simp; done) | (simp; omega) | omega) _)))⟩
theorem s_isone (p : M.Move) (w : World) :
    Calls Try.prog 18 #[.agg #[.int .i64 p.rod, .int .i64 p.part, .int .i64 p.by_]] w fun e w' => e = .returned (.bool p.ok) ∧ Below w.heap.size w w' := by
  go_enter Try.func18, Try.ntmps18
  go_wp2_with fail
  refine (s_one p _).mono ?_
  rintro e w1 ⟨rfl, b1⟩
  have hb : Below w.heap.size w w1 := ((Below.refl w.heap.size w).alloc (Nat.le_refl _) _).trans (b1.mono (by simp))
  clear b1
  go_wp2
  go_ret
  exact ⟨rfl, hb⟩
set_option maxHeartbeats 1000000 in
theorem i_good (A : Option Addr) (c : Nat) (l : List M.Move) (w : World) (hl : l.length ≤ 1048576) (ha : K.Rd w 3 A l.length (l.flatMap M.moveCells)) :
    Calls Try.prog 75 #[.slice A l.length c] w fun e w' => e = .returned (.bool (M.movesOk l)) ∧ Below w.heap.size w w' := by
  have hF : Hid (M.movesOk l = (decide (l.length ≤ 60) && l.all M.Move.ok)) := rfl
  generalize M.movesOk l = R at hF ⊢
  by_cases h60 : 60 < l.length
  · have HK := Lib.hid (show R = false by rw [hF.out]; simp; omega)
    clear hF
    go_enter Try.func75, Try.ntmps75
    go_wp2
    go_ret
    exact ⟨K.ret_bool HK.out.symm, Below.refl _ _⟩
  · have HR := Lib.hid (show R = l.all M.Move.ok by rw [hF.out]; simp; omega)
    clear hF
    go_enter Try.func75, Try.ntmps75
    go_wp2
    go_loopw [10] (fun i wr => ∃ k : Nat, k ≤ l.length ∧ i = .int .i64 k ∧ Hid ((l.take k).all M.Move.ok = true) ∧ Below w.heap.size w wr) (fun i _ => l.length - (intOf i).toNat)
    case atStart => exact ⟨0, Nat.zero_le _, rfl, Lib.hid (by simp), Below.refl _ _⟩
    case round =>
      obtain ⟨k, hk, rfl, hall, hb⟩ := hrel
      by_cases hlt : k < l.length
      · obtain ⟨g, o, rfl, hg, c0, c1, c2⟩ := (ha.below hb).move hlt
        have h1 : (k : Int) < (l.length : Int) := by omega
        have h2 : (0 : Int) ≤ (k : Int) := by omega
        have HA := Lib.hid (M.all_take_succ M.Move.ok l k hlt)
        have HO := Lib.hid (fun w => i_one l[k] w)
        have hbs := hb.size
        generalize l[k].ok = rk at HA HO
        generalize l[k].rod = x at *
        generalize l[k].part = y at *
        generalize l[k].by_ = z at *
        cases rk with
        | false =>
          have HK := Lib.hid (show R = false by rw [HR.out, M.all_take_false (k := k + 1) (by rw [HA.out]; simp)])
          go_wp2_with fail
          refine (HO.out _).mono ?_
          rintro e w1 ⟨rfl, b1⟩
          have hb' := (hb.alloc hb.size (.cells #[.int .i64 x, .int .i64 y, .int .i64 z] 25)).trans (b1.mono (by simp; omega))
          clear b1
          go_wp2
          go_ret
          exact ⟨K.ret_bool HK.out.symm, hb'⟩
        | true =>
          have HK := Lib.hid (show (l.take (k + 1)).all M.Move.ok = true by rw [HA.out, hall.out]; rfl)
          go_wp2_with fail
          refine (HO.out _).mono ?_
          rintro e w1 ⟨rfl, b1⟩
          have hb' := (hb.alloc hb.size (.cells #[.int .i64 x, .int .i64 y, .int .i64 z] 25)).trans (b1.mono (by simp; omega))
          clear b1
          go_wp2
          go_roundw
          case rel => exact ⟨k + 1, by omega, by go_num, HK, hb'⟩
          case measure => simp [intOf]; omega
      · obtain rfl : k = l.length := by omega
        have ha' := hall.out
        rw [List.take_length] at ha'
        have HK := Lib.hid (HR.out.trans ha')
        clear ha'
        go_wp2
        go_ret
        exact ⟨K.ret_bool HK.out.symm, hb⟩
set_option maxHeartbeats 1000000 in
theorem s_good (A : Option Addr) (c : Nat) (l : List M.Move) (w : World) (hl : l.length ≤ 1048576) (ha : K.Rd w 3 A l.length (l.flatMap M.moveCells)) :
    Calls Try.prog 73 #[.slice A l.length c] w fun e w' => e = .returned (.bool (M.movesOk l)) ∧ Below w.heap.size w w' := by
  have hF : Hid (M.movesOk l = (decide (l.length ≤ 60) && l.all M.Move.ok)) := rfl
  generalize M.movesOk l = R at hF ⊢
  go_enter Try.func73, Try.ntmps73
  go_wp2
  go_loopw [3] (fun i wr => ∃ k : Nat, k ≤ l.length ∧ i = .int .i64 k ∧ Hid ((l.take k).all M.Move.ok = true) ∧ Below w.heap.size w wr) (fun i _ => l.length - (intOf i).toNat)
  case atStart => exact ⟨0, Nat.zero_le _, rfl, Lib.hid (by simp), Below.refl _ _⟩
  case round =>
    obtain ⟨k, hk, rfl, hall, hb⟩ := hrel
    by_cases hlt : k < l.length
    · obtain ⟨g, o, rfl, hg, c0, c1, c2⟩ := (ha.below hb).move hlt
      have h1 : (k : Int) < (l.length : Int) := by omega
      have h2 : (0 : Int) ≤ (k : Int) := by omega
      have HA := Lib.hid (M.all_take_succ M.Move.ok l k hlt)
      have HO := Lib.hid (fun w => s_one l[k] w)
      generalize l[k].ok = rk at HA HO
      generalize l[k].rod = x at *
      generalize l[k].part = y at *
      generalize l[k].by_ = z at *
      cases rk with
      | false =>
        have HK := Lib.hid (show R = false by rw [hF.out, M.all_take_false (k := k + 1) (by rw [HA.out]; simp)]; simp)
        go_wp2_with fail
        refine (HO.out _).mono ?_
        rintro e w1 ⟨rfl, b1⟩
        have hb' := hb.trans (b1.mono hb.size)
        clear b1
        go_wp2
        go_ret
        exact ⟨K.ret_bool HK.out.symm, hb'⟩
      | true =>
        have HK := Lib.hid (show (l.take (k + 1)).all M.Move.ok = true by rw [HA.out, hall.out]; rfl)
        go_wp2_with fail
        refine (HO.out _).mono ?_
        rintro e w1 ⟨rfl, b1⟩
        have hb' := hb.trans (b1.mono hb.size)
        clear b1
        go_wp2
        go_roundw
        case rel => exact ⟨k + 1, by omega, by go_num, HK, hb'⟩
        case measure => simp [intOf]; omega
    · obtain rfl : k = l.length := by omega
      have ha' := hall.out
      rw [List.take_length] at ha'
      have HK := Lib.hid (show R = decide ((l.length : Int) ≤ 60) by rw [hF.out, ha', Bool.and_true]; congr 1; simp; omega)
      clear ha'
      go_wp2
      go_ret
      exact ⟨K.ret_bool HK.out.symm, hb⟩
end Go.Proofs.Ythlkdaogmcjlbaa.MoveF
