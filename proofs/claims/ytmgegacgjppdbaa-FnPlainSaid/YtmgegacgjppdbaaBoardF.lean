/-
  Walks: boards, in the program and in the reference (printed by gen_board.py).
-/
import Derived.Test.YtmgegacgjppdbaaBoardH
import Derived.Test.YtmgegacgjppdbaaBase
import Derived.IntWalk
set_option linter.unusedVariables false
namespace Go.Proofs.Ytmgegacgjppdbaa.M
def bOk (l k : List Int) : Bool := inR l.length 1 6 && decide (k.length = l.length) && l.all (fun x => inR x 0 30) && k.all (fun x => inR x 0 30)
theorem bOk_iff (l k : List Int) : bOk l k = true ↔ (1 ≤ l.length ∧ l.length ≤ 6) ∧ k.length = l.length ∧ (∀ x ∈ l, 0 ≤ x ∧ x ≤ 30) ∧ ∀ x ∈ k, 0 ≤ x ∧ x ≤ 30 := by
  simp only [bOk, Bool.and_eq_true, List.all_eq_true, inR_iff, decide_eq_true_eq, and_assoc]
  constructor
  · rintro ⟨a, b, c, d, e⟩; exact ⟨by omega, by omega, c, d, e⟩
  · rintro ⟨a, b, c, d, e⟩; exact ⟨by omega, by omega, c, d, e⟩
theorem bOk_at {l k : List Int} (h : bOk l k = true) {j : Nat} (hj : j < l.length) (hj' : j < k.length) : (0 ≤ l[j] ∧ l[j] ≤ 30) ∧ 0 ≤ k[j] ∧ k[j] ≤ 30 := by
  obtain ⟨_, _, c, d⟩ := (bOk_iff l k).1 h
  exact ⟨c _ (List.getElem_mem _), d _ (List.getElem_mem _)⟩
def bPlain (l k : List Int) : Bool := l.all (fun x => inR x 0 4) && k.all (fun x => inR x 0 1)
def isPlain (l k : List Int) : Bool × Bool := if bOk l k = true then (bPlain l k, true) else (false, false)
theorem isPlain_yes {l k : List Int} (h : bOk l k = true) : isPlain l k = (bPlain l k, true) := by simp [isPlain, h]
theorem isPlain_no {l k : List Int} (h : bOk l k = false) : isPlain l k = (false, false) := by simp [isPlain, h]
/-- the value of the places from j on. -/
def bVal : List Int → List Int → Int
  | x :: l, y :: k => 10 * bVal l k + x + 5 * y
  | _, _ => 0
theorem bVal_drop (l k : List Int) (j : Nat) (h : j < l.length) (h' : j < k.length) : bVal (l.drop j) (k.drop j) = 10 * bVal (l.drop (j + 1)) (k.drop (j + 1)) + l[j] + 5 * k[j] := by
  rw [List.drop_eq_getElem_cons h, List.drop_eq_getElem_cons h']; rfl
theorem bVal_bd {l k : List Int} (h : bOk l k = true) : ∀ n j, n + j = l.length → 0 ≤ bVal (l.drop j) (k.drop j) ∧ bVal (l.drop j) (k.drop j) + 20 ≤ 20 * 10 ^ n
  | 0, j, hj => by
      rw [List.drop_of_length_le (by omega : l.length ≤ j)]; simp [bVal]
  | n + 1, j, hj => by
      have ih := bVal_bd h n (j + 1) (by omega)
      have hl := ((bOk_iff l k).1 h).2.1
      obtain ⟨a, b⟩ := bOk_at h (j := j) (by omega) (by omega)
      rw [bVal_drop l k j (by omega) (by omega), Int.pow_succ]
      omega
theorem bVal_facts {l k : List Int} (h : bOk l k = true) (j : Nat) (hj : j ≤ l.length) : 0 ≤ bVal (l.drop j) (k.drop j) ∧ bVal (l.drop j) (k.drop j) ≤ 20000000 := by
  have hb := bVal_bd h (l.length - j) j (by omega)
  have hl := ((bOk_iff l k).1 h).1
  have hp : (10 : Int) ^ (l.length - j) ≤ 10 ^ 6 := by
    have : (10 : Nat) ^ (l.length - j) ≤ 10 ^ 6 := Nat.pow_le_pow_right (by omega) (by omega)
    exact_mod_cast this
  omega
def bValue (l k : List Int) : Int × Bool := if bOk l k = true then (bVal l k, true) else (0, false)
theorem bValue_yes {l k : List Int} (h : bOk l k = true) : bValue l k = (bVal l k, true) := by simp [bValue, h]
theorem bValue_no {l k : List Int} (h : bOk l k = false) : bValue l k = (0, false) := by simp [bValue, h]
end Go.Proofs.Ytmgegacgjppdbaa.M
namespace Go.Proofs.Ytmgegacgjppdbaa.BoardF
open Go.RowKit
theorem i_all (A : Option Addr) (c : Nat) (l : List Int) (lo hi : Int) (w : World) (hl : l.length ≤ 1048576) (ha : K.Rd w 1 A l.length (l.map (Value.int .i64))) :
    Calls Try.prog 58 #[.slice A l.length c, .int .i64 lo, .int .i64 hi] w fun e w' => e = .returned (.bool (l.all fun x => M.inR x lo hi)) ∧ w = w' := by
  obtain ⟨R, hR⟩ : ∃ R, R = l.all fun x => M.inR x lo hi := ⟨_, rfl⟩
  rw [← hR]
  have HR := Lib.hid hR
  clear hR
  go_enter Try.func58, Try.ntmps58
  go_wp2
  go_loopw [11] (fun i wr => ∃ j : Nat, j ≤ l.length ∧ i = .int .i64 j ∧ Hid (((l.take j).all fun x => M.inR x lo hi) = true) ∧ w = wr) (fun i _ => l.length - (intOf i).toNat)
  case atStart => exact ⟨0, Nat.zero_le _, rfl, Lib.hid (by simp), by simp⟩
  case round =>
    obtain ⟨j, hj, rfl, hall, rfl⟩ := hrel
    by_cases hlt : j < l.length
    · obtain ⟨g, o, rfl, hc⟩ := ha.int hlt
      have h1 : (j : Int) < (l.length : Int) := by omega
      have h2 : (0 : Int) ≤ (j : Int) := by omega
      have HA := Lib.hid (M.all_take_succ (fun x => M.inR x lo hi) l j hlt)
      generalize l[j] = x at *
      by_cases hx : lo ≤ x ∧ x ≤ hi
      · obtain ⟨hx1, hx2⟩ := hx
        have HK := Lib.hid (show ((l.take (j + 1)).all fun x => M.inR x lo hi) = true by rw [HA.out, hall.out, M.inR_yes hx1 hx2]; rfl)
        go_wp2_with (go_at_call 57; refine (Base.i_within_yes _ _ _ _ hx1 hx2).mono ?_; rintro e w1 ⟨rfl, rfl⟩)
        go_roundw
        case rel => exact ⟨j + 1, by omega, by go_num, HK, trivial⟩
        case measure => simp [intOf]; omega
      · have HK := Lib.hid (show R = false by rw [HR.out, M.all_take_false (k := j + 1) (by rw [HA.out, M.inR_no (n := x) (by omega)]; simp)])
        go_wp2_with (go_at_call 57; refine (Base.i_within_no _ _ _ _ (by omega)).mono ?_; rintro e w1 ⟨rfl, rfl⟩)
        go_ret
        exact ⟨K.ret_bool HK.out.symm, rfl⟩
    · obtain rfl : j = l.length := by omega
      have ha' := hall.out
      rw [List.take_length] at ha'
      have HK := Lib.hid (HR.out.trans ha')
      clear ha' hall
      go_wp2
      go_ret
      exact ⟨K.ret_bool HK.out.symm, rfl⟩
set_option maxHeartbeats 1000000 in
theorem i_board (A : Option Addr) (c : Nat) (l : List Int) (B : Option Addr) (d : Nat) (k : List Int) (w : World) (hl : l.length ≤ 1048576) (hk : k.length ≤ 1048576) (ha : K.Rd w 1 A l.length (l.map (Value.int .i64))) (hb : K.Rd w 1 B k.length (k.map (Value.int .i64))) :
    Calls Try.prog 19 #[.agg #[.slice A l.length c, .slice B k.length d]] w fun e w' => e = .returned (.bool (M.bOk l k)) ∧ Below w.heap.size w w' := by
  obtain ⟨o, ho⟩ : ∃ o : Obj, o = .cells #[.slice A l.length c, .slice B k.length d] 27 := ⟨_, rfl⟩
  have r0 := ha.alloc o
  have t0 := hb.alloc o
  have x0 : K.Box (w.alloc o) w.heap.size [.slice A l.length c, .slice B k.length d] := by rw [ho]; exact K.Box.new _ _ _
  have b0 : Below w.heap.size w (w.alloc o) := (Below.refl w.heap.size w).alloc (Nat.le_refl _) _
  subst ho
  have HL := Lib.hid (i_all A c l 0 30 _ hl r0)
  have HK := Lib.hid (i_all B d k 0 30 _ hk t0)
  have hF : Hid (M.bOk l k = (M.inR l.length 1 6 && decide (k.length = l.length) && (l.all fun x => M.inR x 0 30) && (k.all fun x => M.inR x 0 30))) := rfl
  generalize M.bOk l k = R at hF ⊢
  generalize (l.all fun x => M.inR x 0 30) = RL at *
  generalize (k.all fun x => M.inR x 0 30) = RK at *
  clear r0 t0 x0
  by_cases hn : 1 ≤ (l.length : Int) ∧ (l.length : Int) ≤ 6
  · obtain ⟨hn1, hn2⟩ := hn
    by_cases he : k.length = l.length
    · have hd : ((k.length : Int) == (l.length : Int)) = true := by rw [he]; simp
      have HQ := Lib.hid (show R = (RL && RK) by rw [hF.out, M.inR_yes hn1 hn2]; simp [he])
      clear hF he
      cases RL with
      | true =>
        go_enter Try.func19, Try.ntmps19
        go_wp2_with (go_at_call 57; refine (Base.i_within_yes _ _ _ _ hn1 hn2).mono ?_; rintro e w1 ⟨rfl, rfl⟩)
        refine HL.out.mono ?_
        rintro e w1 ⟨rfl, rfl⟩
        go_wp2_with fail
        refine HK.out.mono ?_
        rintro e w1 ⟨rfl, rfl⟩
        go_wp2_with fail
        go_ret
        exact ⟨by rw [HQ.out]; simp, b0⟩
      | false =>
        have HQ' := Lib.hid (show R = false by rw [HQ.out]; simp)
        go_enter Try.func19, Try.ntmps19
        go_wp2_with (go_at_call 57; refine (Base.i_within_yes _ _ _ _ hn1 hn2).mono ?_; rintro e w1 ⟨rfl, rfl⟩)
        refine HL.out.mono ?_
        rintro e w1 ⟨rfl, rfl⟩
        go_wp2_with fail
        go_ret
        exact ⟨K.ret_bool HQ'.out.symm, b0⟩
    · have hd : ((k.length : Int) == (l.length : Int)) = false := beq_eq_false_iff_ne.2 (by omega)
      have HQ := Lib.hid (show R = false by rw [hF.out]; simp [he])
      clear hF
      go_enter Try.func19, Try.ntmps19
      go_wp2_with (go_at_call 57; refine (Base.i_within_yes _ _ _ _ hn1 hn2).mono ?_; rintro e w1 ⟨rfl, rfl⟩)
      go_ret
      exact ⟨K.ret_bool HQ.out.symm, b0⟩
  · have HQ := Lib.hid (show R = false by rw [hF.out, M.inR_no (n := (l.length : Int)) (by omega)]; simp)
    clear hF
    go_enter Try.func19, Try.ntmps19
    go_wp2_with (go_at_call 57; refine (Base.i_within_no _ _ _ _ (by omega)).mono ?_; rintro e w1 ⟨rfl, rfl⟩)
    go_ret
    exact ⟨K.ret_bool HQ.out.symm, b0⟩
set_option maxHeartbeats 2000000 in
theorem s_good (A : Option Addr) (c : Nat) (l : List Int) (B : Option Addr) (d : Nat) (k : List Int) (w : World) (hl : l.length ≤ 1048576) (hk : k.length ≤ 1048576) (ha : K.Rd w 1 A l.length (l.map (Value.int .i64))) (hb : K.Rd w 1 B k.length (k.map (Value.int .i64))) :
    Calls Try.prog 55 #[.agg #[.slice A l.length c, .slice B k.length d]] w fun e w' => e = .returned (.bool (M.bOk l k)) ∧ Below w.heap.size w w' := by
  obtain ⟨o, ho⟩ : ∃ o : Obj, o = .cells #[.slice A l.length c, .slice B k.length d] 27 := ⟨_, rfl⟩
  have r0 := ha.alloc o
  have t0 := hb.alloc o
  have x0 : K.Box (w.alloc o) w.heap.size [.slice A l.length c, .slice B k.length d] := by rw [ho]; exact K.Box.new _ _ _
  have b0 : Below w.heap.size w (w.alloc o) := (Below.refl w.heap.size w).alloc (Nat.le_refl _) _
  subst ho
  have hF : Hid (M.bOk l k = (M.inR l.length 1 6 && decide (k.length = l.length) && (l.all fun x => M.inR x 0 30) && (k.all fun x => M.inR x 0 30))) := rfl
  generalize M.bOk l k = R at hF ⊢
  by_cases hn : 1 ≤ (l.length : Int) ∧ (l.length : Int) ≤ 6
  · obtain ⟨hn1, hn2⟩ := hn
    by_cases he : k.length = l.length
    · have hd : ((k.length : Int) != (l.length : Int)) = false := by rw [he]; simp
      have HQ := Lib.hid (show R = ((l.all fun x => M.inR x 0 30) && (k.all fun x => M.inR x 0 30)) by rw [hF.out, M.inR_yes hn1 hn2]; simp [he])
      have HE := Lib.hid he
      have he1 : l.length ≤ k.length := by omega
      clear hF he
      go_enter Try.func55, Try.ntmps55
      go_wp2_with (go_at_call 60; refine (Base.s_in_yes _ _ _ _ hn1 hn2).mono ?_; rintro e w1 ⟨rfl, rfl⟩)
      go_loopw [4] (fun i wr => ∃ j : Nat, j ≤ l.length ∧ i = .int .i64 j ∧ Hid (((l.take j).all fun x => M.inR x 0 30) = true) ∧ Hid (((k.take j).all fun x => M.inR x 0 30) = true) ∧ Below (w.alloc (.cells #[.slice A l.length c, .slice B k.length d] 27)).heap.size (w.alloc (.cells #[.slice A l.length c, .slice B k.length d] 27)) wr) (fun i _ => l.length - (intOf i).toNat)
      case atStart => exact ⟨0, Nat.zero_le _, rfl, Lib.hid (by simp), Lib.hid (by simp), Below.refl _ _⟩
      case round =>
        obtain ⟨j, hj, rfl, hall, hall2, hbb⟩ := hrel
        have x1 := x0.below hbb
        obtain ⟨p0, p1⟩ := x1.c2
        have pg := x1.1
        have r1 := r0.below hbb
        have t1 := t0.below hbb
        have hbw := b0.trans (hbb.mono b0.size)
        clear x1
        by_cases hlt : j < l.length
        · have hlt2 : j < k.length := by omega
          obtain ⟨g, o, rfl, hc⟩ := r1.int hlt
          obtain ⟨g', o', rfl, hc'⟩ := t1.int hlt2
          have h1 : (j : Int) < (l.length : Int) := by omega
          have h1' : (j : Int) < (k.length : Int) := by omega
          have h2 : (0 : Int) ≤ (j : Int) := by omega
          have HA := Lib.hid (M.all_take_succ (fun x => M.inR x 0 30) l j hlt)
          have HA2 := Lib.hid (M.all_take_succ (fun x => M.inR x 0 30) k j hlt2)
          generalize l[j] = x at *
          generalize k[j] = y at *
          have HBB := Lib.hid hbb
          have HBW := Lib.hid hbw
          clear hbb hbw r1 t1 ha hb r0 t0 x0
          by_cases hx : 0 ≤ x ∧ x ≤ 30
          · obtain ⟨hx1, hx2⟩ := hx
            by_cases hy : 0 ≤ y ∧ y ≤ 30
            · obtain ⟨hy1, hy2⟩ := hy
              have HK := Lib.hid (show ((l.take (j + 1)).all fun x => M.inR x 0 30) = true by rw [HA.out, hall.out, M.inR_yes hx1 hx2]; rfl)
              have HK2 := Lib.hid (show ((k.take (j + 1)).all fun x => M.inR x 0 30) = true by rw [HA2.out, hall2.out, M.inR_yes hy1 hy2]; rfl)
              go_wp2_with (go_at_call 60; refine (Base.s_in_yes _ _ _ _ (by omega) (by omega)).mono ?_; rintro e w1 ⟨rfl, rfl⟩)
              go_roundw
              case rel => exact ⟨j + 1, by omega, by go_num, HK, HK2, HBB.out⟩
              case measure => simp [intOf]; omega
            · have HK := Lib.hid (show R = false by rw [HQ.out, M.all_take_false (l := k) (k := j + 1) (by rw [HA2.out, M.inR_no (n := y) (by omega)]; simp)]; simp)
              go_wp2_with (go_at_call 60; first | (refine (Base.s_in_yes _ _ _ _ (by omega) (by omega)).mono ?_; rintro e w1 ⟨rfl, rfl⟩) | (refine (Base.s_in_no _ _ _ _ (by omega)).mono ?_; rintro e w1 ⟨rfl, rfl⟩))
              go_ret
              exact ⟨K.ret_bool HK.out.symm, HBW.out⟩
          · have HK := Lib.hid (show R = false by rw [HQ.out, M.all_take_false (l := l) (k := j + 1) (by rw [HA.out, M.inR_no (n := x) (by omega)]; simp)]; simp)
            go_wp2_with (go_at_call 60; refine (Base.s_in_no _ _ _ _ (by omega)).mono ?_; rintro e w1 ⟨rfl, rfl⟩)
            go_ret
            exact ⟨K.ret_bool HK.out.symm, HBW.out⟩
        · obtain rfl : j = l.length := by omega
          have ha' := hall.out
          have ha2' := hall2.out
          rw [List.take_length] at ha'
          rw [← HE.out, List.take_length] at ha2'
          have HK := Lib.hid (show R = true by rw [HQ.out, ha', ha2']; rfl)
          clear ha' ha2' hall hall2
          go_wp2
          go_ret
          exact ⟨K.ret_bool HK.out.symm, hbw⟩
    · have hd : ((k.length : Int) != (l.length : Int)) = true := bne_iff_ne.2 (by omega)
      have HQ := Lib.hid (show R = false by rw [hF.out]; simp [he])
      clear hF
      go_enter Try.func55, Try.ntmps55
      go_wp2_with (go_at_call 60; refine (Base.s_in_yes _ _ _ _ hn1 hn2).mono ?_; rintro e w1 ⟨rfl, rfl⟩)
      go_ret
      exact ⟨K.ret_bool HQ.out.symm, b0⟩
  · have HQ := Lib.hid (show R = false by rw [hF.out, M.inR_no (n := (l.length : Int)) (by omega)]; simp)
    clear hF
    go_enter Try.func55, Try.ntmps55
    go_wp2_with (go_at_call 60; refine (Base.s_in_no _ _ _ _ (by omega)).mono ?_; rintro e w1 ⟨rfl, rfl⟩)
    go_ret
    exact ⟨K.ret_bool HQ.out.symm, b0⟩
theorem s_board (A : Option Addr) (c : Nat) (l : List Int) (B : Option Addr) (d : Nat) (k : List Int) (w : World) (hl : l.length ≤ 1048576) (hk : k.length ≤ 1048576) (ha : K.Rd w 1 A l.length (l.map (Value.int .i64))) (hb : K.Rd w 1 B k.length (k.map (Value.int .i64))) :
    Calls Try.prog 17 #[.agg #[.slice A l.length c, .slice B k.length d]] w fun e w' => e = .returned (.bool (M.bOk l k)) ∧ Below w.heap.size w w' := by
  obtain ⟨o, ho⟩ : ∃ o : Obj, o = .cells #[.slice A l.length c, .slice B k.length d] 27 := ⟨_, rfl⟩
  have r0 := ha.alloc o
  have t0 := hb.alloc o
  have x0 : K.Box (w.alloc o) w.heap.size [.slice A l.length c, .slice B k.length d] := by rw [ho]; exact K.Box.new _ _ _
  have b0 : Below w.heap.size w (w.alloc o) := (Below.refl w.heap.size w).alloc (Nat.le_refl _) _
  subst ho
  go_enter Try.func17, Try.ntmps17
  go_wp2_with fail
  refine (s_good A c l B d k _ hl hk r0 t0).mono ?_
  rintro e w1 ⟨rfl, b1⟩
  have hb0 := b0.trans (b1.mono b0.size)
  clear b1
  go_wp2
  go_ret
  exact ⟨rfl, hb0⟩
set_option maxHeartbeats 2000000 in
theorem s_plain (A : Option Addr) (c : Nat) (l : List Int) (B : Option Addr) (d : Nat) (k : List Int) (w : World) (hok : M.bOk l k = true) (ha : K.Rd w 1 A l.length (l.map (Value.int .i64))) (hb : K.Rd w 1 B k.length (k.map (Value.int .i64))) :
    Calls Try.prog 65 #[.agg #[.slice A l.length c, .slice B k.length d]] w fun e w' => e = .returned (.bool (M.bPlain l k)) ∧ Below w.heap.size w w' := by
  obtain ⟨o, ho⟩ : ∃ o : Obj, o = .cells #[.slice A l.length c, .slice B k.length d] 27 := ⟨_, rfl⟩
  have r0 := ha.alloc o
  have t0 := hb.alloc o
  have x0 : K.Box (w.alloc o) w.heap.size [.slice A l.length c, .slice B k.length d] := by rw [ho]; exact K.Box.new _ _ _
  have b0 : Below w.heap.size w (w.alloc o) := (Below.refl w.heap.size w).alloc (Nat.le_refl _) _
  subst ho
  obtain ⟨⟨hl1, hl6⟩, he, -⟩ := (M.bOk_iff l k).1 hok
  have HE := Lib.hid he
  have he1 : l.length ≤ k.length := by omega
  have he2 : k.length ≤ l.length := by omega
  clear he
  have hat := fun j h h' => M.bOk_at hok (j := j) h h'
  clear hok
  have HQ : Hid (M.bPlain l k = ((l.all fun x => M.inR x 0 4) && (k.all fun x => M.inR x 0 1))) := rfl
  generalize M.bPlain l k = R at HQ ⊢
  go_enter Try.func65, Try.ntmps65
  go_wp2_with fail
  go_loopw [3] (fun i wr => ∃ j : Nat, j ≤ l.length ∧ i = .int .i64 j ∧ Hid (((l.take j).all fun x => M.inR x 0 4) = true) ∧ Hid (((k.take j).all fun x => M.inR x 0 1) = true) ∧ Below (w.alloc (.cells #[.slice A l.length c, .slice B k.length d] 27)).heap.size (w.alloc (.cells #[.slice A l.length c, .slice B k.length d] 27)) wr) (fun i _ => l.length - (intOf i).toNat)
  case atStart => exact ⟨0, Nat.zero_le _, rfl, Lib.hid (by simp), Lib.hid (by simp), Below.refl _ _⟩
  case round =>
    obtain ⟨j, hj, rfl, hall, hall2, hbb⟩ := hrel
    have x1 := x0.below hbb
    obtain ⟨p0, p1⟩ := x1.c2
    have pg := x1.1
    have r1 := r0.below hbb
    have t1 := t0.below hbb
    have hbw := b0.trans (hbb.mono b0.size)
    clear x1
    by_cases hlt : j < l.length
    · have hlt2 : j < k.length := by omega
      obtain ⟨⟨x1, x2⟩, y1, y2⟩ := hat j hlt hlt2
      obtain ⟨g, o, rfl, hc⟩ := r1.int hlt
      obtain ⟨g', o', rfl, hc'⟩ := t1.int hlt2
      have h1 : (j : Int) < (l.length : Int) := by omega
      have h1' : (j : Int) < (k.length : Int) := by omega
      have h2 : (0 : Int) ≤ (j : Int) := by omega
      have HA := Lib.hid (M.all_take_succ (fun x => M.inR x 0 4) l j hlt)
      have HA2 := Lib.hid (M.all_take_succ (fun x => M.inR x 0 1) k j hlt2)
      generalize l[j] = x at *
      generalize k[j] = y at *
      have HBB := Lib.hid hbb
      have HBW := Lib.hid hbw
      clear hbb hbw r1 t1 ha hb r0 t0 x0 hat
      by_cases hx : 4 < x
      · have hd2 : decide (4 < x) = true := decide_eq_true hx
        have HK := Lib.hid (show R = false by rw [HQ.out, M.all_take_false (l := l) (k := j + 1) (by rw [HA.out, M.inR_no (n := x) (by omega)]; simp)]; simp)
        go_wp2_with fail
        go_ret
        exact ⟨K.ret_bool HK.out.symm, HBW.out⟩
      · have hd2 : decide (4 < x) = false := decide_eq_false hx
        by_cases hy : 1 < y
        · have hd3 : decide (1 < y) = true := decide_eq_true hy
          have HK := Lib.hid (show R = false by rw [HQ.out, M.all_take_false (l := k) (k := j + 1) (by rw [HA2.out, M.inR_no (n := y) (by omega)]; simp)]; simp)
          go_wp2_with fail
          go_ret
          exact ⟨K.ret_bool HK.out.symm, HBW.out⟩
        · have hd3 : decide (1 < y) = false := decide_eq_false hy
          have HK := Lib.hid (show ((l.take (j + 1)).all fun x => M.inR x 0 4) = true by rw [HA.out, hall.out, M.inR_yes (by omega) (by omega)]; rfl)
          have HK2 := Lib.hid (show ((k.take (j + 1)).all fun x => M.inR x 0 1) = true by rw [HA2.out, hall2.out, M.inR_yes (by omega) (by omega)]; rfl)
          go_wp2_with fail
          go_roundw
          case rel => exact ⟨j + 1, by omega, by go_num, HK, HK2, HBB.out⟩
          case measure => simp [intOf]; omega
    · obtain rfl : j = l.length := by omega
      have ha' := hall.out
      have ha2' := hall2.out
      rw [List.take_length] at ha'
      rw [← HE.out, List.take_length] at ha2'
      have HK := Lib.hid (show R = true by rw [HQ.out, ha', ha2']; rfl)
      clear ha' ha2' hall hall2
      go_wp2
      go_ret
      exact ⟨K.ret_bool HK.out.symm, hbw⟩
set_option maxHeartbeats 2000000 in
theorem s_val (A : Option Addr) (c : Nat) (l : List Int) (B : Option Addr) (d : Nat) (k : List Int) (w : World) (hok : M.bOk l k = true) (ha : K.Rd w 1 A l.length (l.map (Value.int .i64))) (hb : K.Rd w 1 B k.length (k.map (Value.int .i64))) :
    Calls Try.prog 67 #[.agg #[.slice A l.length c, .slice B k.length d]] w fun e w' => e = .returned (.int .i64 (M.bVal l k)) ∧ Below w.heap.size w w' := by
  obtain ⟨o, ho⟩ : ∃ o : Obj, o = .cells #[.slice A l.length c, .slice B k.length d] 27 := ⟨_, rfl⟩
  have r0 := ha.alloc o
  have t0 := hb.alloc o
  have x0 : K.Box (w.alloc o) w.heap.size [.slice A l.length c, .slice B k.length d] := by rw [ho]; exact K.Box.new _ _ _
  have b0 : Below w.heap.size w (w.alloc o) := (Below.refl w.heap.size w).alloc (Nat.le_refl _) _
  subst ho
  obtain ⟨⟨hl1, hl6⟩, he, -⟩ := (M.bOk_iff l k).1 hok
  have HE := Lib.hid he
  have he1 : l.length ≤ k.length := by omega
  have he2 : k.length ≤ l.length := by omega
  clear he
  have hat := fun j h h' => M.bOk_at hok (j := j) h h'
  have hv := fun j h => M.bVal_facts hok j h
  clear hok
  go_enter Try.func67, Try.ntmps67
  go_wp2_with fail
  go_loopw [4, 3] (fun i s wr => ∃ n : Nat, n ≤ l.length ∧ i = .int .i64 ((n : Int) - 1) ∧ s = .int .i64 (M.bVal (l.drop n) (k.drop n)) ∧ Below (w.alloc (.cells #[.slice A l.length c, .slice B k.length d] 27)).heap.size (w.alloc (.cells #[.slice A l.length c, .slice B k.length d] 27)) wr) (fun i _ _ => (intOf i + 1).toNat)
  case atStart => exact ⟨l.length, Nat.le_refl _, rfl, by rw [List.drop_length]; simp [M.bVal], Below.refl _ _⟩
  case round =>
    obtain ⟨n, hn, rfl, rfl, hbb⟩ := hrel
    have x1 := x0.below hbb
    obtain ⟨p0, p1⟩ := x1.c2
    have pg := x1.1
    have r1 := r0.below hbb
    have t1 := t0.below hbb
    have hbw := b0.trans (hbb.mono b0.size)
    clear x1
    cases n with
    | succ j =>
      rw [show ((j + 1 : Nat) : Int) - 1 = j by omega]
      have hlt : j < l.length := by omega
      have hlt2 : j < k.length := by omega
      obtain ⟨⟨x1, x2⟩, y1, y2⟩ := hat j hlt hlt2
      obtain ⟨v1, v2⟩ := hv (j + 1) (by omega)
      obtain ⟨g, o, rfl, hc⟩ := r1.int hlt
      obtain ⟨g', o', rfl, hc'⟩ := t1.int hlt2
      have h1 : (j : Int) < (l.length : Int) := by omega
      have h1' : (j : Int) < (k.length : Int) := by omega
      have h2 : (0 : Int) ≤ (j : Int) := by omega
      have HV := Lib.hid (M.bVal_drop l k j hlt hlt2)
      generalize l[j] = x at *
      generalize k[j] = y at *
      generalize M.bVal (l.drop (j + 1)) (k.drop (j + 1)) = v at *
      have q1 : IntKind.i64.wrap (10 * v) = 10 * v := IntWalk.i64_in _ (by omega)
      have q2 : IntKind.i64.wrap (10 * v + x) = 10 * v + x := IntWalk.i64_in _ (by omega)
      have q3 : IntKind.i64.wrap (5 * y) = 5 * y := IntWalk.i64_in _ (by omega)
      have q4 : IntKind.i64.wrap (10 * v + x + 5 * y) = 10 * v + x + 5 * y := IntWalk.i64_in _ (by omega)
      have HBB := Lib.hid hbb
      clear hbb hbw r1 t1 ha hb r0 t0 x0 hat hv
      go_wp2_with fail
      go_quiet (fail)
      clear q1 q2 q3 q4
      go_wp2_with fail
      go_roundw
      case rel => exact ⟨j, by omega, by first | rfl | go_num, by rw [HV.out], K.below_drewN HBB.out _⟩
      case measure => simp [intOf]
    | zero =>
      rw [List.drop_zero, List.drop_zero]
      go_wp2
      go_ret
      exact ⟨rfl, hbw⟩
set_option maxHeartbeats 2000000 in
theorem i_val (A : Option Addr) (c : Nat) (l : List Int) (B : Option Addr) (d : Nat) (k : List Int) (w : World) (hok : M.bOk l k = true) (ha : K.Rd w 1 A l.length (l.map (Value.int .i64))) (hb : K.Rd w 1 B k.length (k.map (Value.int .i64))) :
    Calls Try.prog 68 #[.agg #[.slice A l.length c, .slice B k.length d]] w fun e w' => e = .returned (.int .i64 (M.bVal l k)) ∧ Below w.heap.size w w' := by
  obtain ⟨o, ho⟩ : ∃ o : Obj, o = .cells #[.slice A l.length c, .slice B k.length d] 27 := ⟨_, rfl⟩
  have r0 := ha.alloc o
  have t0 := hb.alloc o
  have x0 : K.Box (w.alloc o) w.heap.size [.slice A l.length c, .slice B k.length d] := by rw [ho]; exact K.Box.new _ _ _
  have b0 : Below w.heap.size w (w.alloc o) := (Below.refl w.heap.size w).alloc (Nat.le_refl _) _
  subst ho
  obtain ⟨⟨hl1, hl6⟩, he, -⟩ := (M.bOk_iff l k).1 hok
  have HE := Lib.hid he
  have he1 : l.length ≤ k.length := by omega
  have he2 : k.length ≤ l.length := by omega
  clear he
  have hat := fun j h h' => M.bOk_at hok (j := j) h h'
  have hv := fun j h => M.bVal_facts hok j h
  clear hok
  go_enter Try.func68, Try.ntmps68
  go_wp2_with fail
  go_loopw [4, 3] (fun i s wr => ∃ n : Nat, n ≤ l.length ∧ i = .int .i64 ((n : Int) - 1) ∧ s = .int .i64 (M.bVal (l.drop n) (k.drop n)) ∧ Below (w.alloc (.cells #[.slice A l.length c, .slice B k.length d] 27)).heap.size (w.alloc (.cells #[.slice A l.length c, .slice B k.length d] 27)) wr) (fun i _ _ => (intOf i + 1).toNat)
  case atStart => exact ⟨l.length, Nat.le_refl _, rfl, by rw [List.drop_length]; simp [M.bVal], Below.refl _ _⟩
  case round =>
    obtain ⟨n, hn, rfl, rfl, hbb⟩ := hrel
    have x1 := x0.below hbb
    obtain ⟨p0, p1⟩ := x1.c2
    have pg := x1.1
    have r1 := r0.below hbb
    have t1 := t0.below hbb
    have hbw := b0.trans (hbb.mono b0.size)
    clear x1
    cases n with
    | succ j =>
      rw [show ((j + 1 : Nat) : Int) - 1 = j by omega]
      have hlt : j < l.length := by omega
      have hlt2 : j < k.length := by omega
      obtain ⟨⟨x1, x2⟩, y1, y2⟩ := hat j hlt hlt2
      obtain ⟨v1, v2⟩ := hv (j + 1) (by omega)
      obtain ⟨g, o, rfl, hc⟩ := r1.int hlt
      obtain ⟨g', o', rfl, hc'⟩ := t1.int hlt2
      have h1 : (j : Int) < (l.length : Int) := by omega
      have h1' : (j : Int) < (k.length : Int) := by omega
      have h2 : (0 : Int) ≤ (j : Int) := by omega
      have HV := Lib.hid (M.bVal_drop l k j hlt hlt2)
      generalize l[j] = x at *
      generalize k[j] = y at *
      generalize M.bVal (l.drop (j + 1)) (k.drop (j + 1)) = v at *
      have q1 : IntKind.i64.wrap (10 * v) = 10 * v := IntWalk.i64_in _ (by omega)
      have q2 : IntKind.i64.wrap (10 * v + x) = 10 * v + x := IntWalk.i64_in _ (by omega)
      have q3 : IntKind.i64.wrap (5 * y) = 5 * y := IntWalk.i64_in _ (by omega)
      have q4 : IntKind.i64.wrap (10 * v + x + 5 * y) = 10 * v + x + 5 * y := IntWalk.i64_in _ (by omega)
      have HBB := Lib.hid hbb
      clear hbb hbw r1 t1 ha hb r0 t0 x0 hat hv
      go_wp2_with fail
      go_quiet (fail)
      clear q1 q2 q3 q4
      go_wp2_with fail
      go_roundw
      case rel => exact ⟨j, by omega, by first | rfl | go_num, by rw [HV.out], K.below_drewN HBB.out _⟩
      case measure => simp [intOf]
    | zero =>
      rw [List.drop_zero, List.drop_zero]
      go_wp2
      go_ret
      exact ⟨rfl, hbw⟩
theorem s_isplain (A : Option Addr) (c : Nat) (l : List Int) (B : Option Addr) (d : Nat) (k : List Int) (w : World) (hl : l.length ≤ 1048576) (hk : k.length ≤ 1048576) (ha : K.Rd w 1 A l.length (l.map (Value.int .i64))) (hb : K.Rd w 1 B k.length (k.map (Value.int .i64))) :
    Calls Try.prog 25 #[.agg #[.slice A l.length c, .slice B k.length d]] w fun e w' => e = .returned (.tuple #[.bool (M.isPlain l k).1, .bool (M.isPlain l k).2]) ∧ Below w.heap.size w w' := by
  obtain ⟨o, ho⟩ : ∃ o : Obj, o = .cells #[.slice A l.length c, .slice B k.length d] 27 := ⟨_, rfl⟩
  have r0 := ha.alloc o
  have t0 := hb.alloc o
  have x0 : K.Box (w.alloc o) w.heap.size [.slice A l.length c, .slice B k.length d] := by rw [ho]; exact K.Box.new _ _ _
  have b0 : Below w.heap.size w (w.alloc o) := (Below.refl w.heap.size w).alloc (Nat.le_refl _) _
  subst ho
  have HS := Lib.hid (s_good A c l B d k _ hl hk r0 t0)
  cases hok : M.bOk l k with
  | false =>
    rw [hok] at HS
    rw [M.isPlain_no hok]
    clear hok
    go_enter Try.func25, Try.ntmps25
    go_wp2_with fail
    refine HS.out.mono ?_
    rintro e w1 ⟨rfl, b1⟩
    have hbb := b0.trans (b1.mono b0.size)
    clear b0 b1
    go_wp2_with fail
    go_ret2
    exact ⟨rfl, hbb⟩
  | true =>
    rw [hok] at HS
    have HN := Lib.hid (fun w h h' => s_plain A c l B d k w hok h h')
    rw [M.isPlain_yes hok]
    clear hok
    go_enter Try.func25, Try.ntmps25
    go_wp2_with fail
    refine HS.out.mono ?_
    rintro e w1 ⟨rfl, b1⟩
    have hbb := b0.trans (b1.mono b0.size)
    have x1 := x0.below b1
    have r1 := r0.below b1
    have t1 := t0.below b1
    obtain ⟨q0, q1⟩ := x1.c2
    have xg := x1.1
    clear b0 b1 x0 r0 t0
    go_wp2_with fail
    refine (HN.out _ r1 t1).mono ?_
    rintro e w2 ⟨rfl, b2⟩
    have hb2 := hbb.trans (b2.mono hbb.size)
    clear hbb b2
    go_wp2_with fail
    go_ret2
    exact ⟨rfl, hb2⟩
theorem s_value (A : Option Addr) (c : Nat) (l : List Int) (B : Option Addr) (d : Nat) (k : List Int) (w : World) (hl : l.length ≤ 1048576) (hk : k.length ≤ 1048576) (ha : K.Rd w 1 A l.length (l.map (Value.int .i64))) (hb : K.Rd w 1 B k.length (k.map (Value.int .i64))) :
    Calls Try.prog 29 #[.agg #[.slice A l.length c, .slice B k.length d]] w fun e w' => e = .returned (.tuple #[.int .i64 (M.bValue l k).1, .bool (M.bValue l k).2]) ∧ Below w.heap.size w w' := by
  obtain ⟨o, ho⟩ : ∃ o : Obj, o = .cells #[.slice A l.length c, .slice B k.length d] 27 := ⟨_, rfl⟩
  have r0 := ha.alloc o
  have t0 := hb.alloc o
  have x0 : K.Box (w.alloc o) w.heap.size [.slice A l.length c, .slice B k.length d] := by rw [ho]; exact K.Box.new _ _ _
  have b0 : Below w.heap.size w (w.alloc o) := (Below.refl w.heap.size w).alloc (Nat.le_refl _) _
  subst ho
  have HS := Lib.hid (s_good A c l B d k _ hl hk r0 t0)
  cases hok : M.bOk l k with
  | false =>
    rw [hok] at HS
    rw [M.bValue_no hok]
    clear hok
    go_enter Try.func29, Try.ntmps29
    go_wp2_with fail
    refine HS.out.mono ?_
    rintro e w1 ⟨rfl, b1⟩
    have hbb := b0.trans (b1.mono b0.size)
    clear b0 b1
    go_wp2_with fail
    go_ret2
    exact ⟨rfl, hbb⟩
  | true =>
    rw [hok] at HS
    have HN := Lib.hid (fun w h h' => s_val A c l B d k w hok h h')
    rw [M.bValue_yes hok]
    clear hok
    go_enter Try.func29, Try.ntmps29
    go_wp2_with fail
    refine HS.out.mono ?_
    rintro e w1 ⟨rfl, b1⟩
    have hbb := b0.trans (b1.mono b0.size)
    have x1 := x0.below b1
    have r1 := r0.below b1
    have t1 := t0.below b1
    obtain ⟨q0, q1⟩ := x1.c2
    have xg := x1.1
    clear b0 b1 x0 r0 t0
    go_wp2_with fail
    refine (HN.out _ r1 t1).mono ?_
    rintro e w2 ⟨rfl, b2⟩
    have hb2 := hbb.trans (b2.mono hbb.size)
    clear hbb b2
    go_wp2_with fail
    go_ret2
    exact ⟨rfl, hb2⟩
theorem i_value (A : Option Addr) (c : Nat) (l : List Int) (B : Option Addr) (d : Nat) (k : List Int) (w : World) (hl : l.length ≤ 1048576) (hk : k.length ≤ 1048576) (ha : K.Rd w 1 A l.length (l.map (Value.int .i64))) (hb : K.Rd w 1 B k.length (k.map (Value.int .i64))) :
    Calls Try.prog 30 #[.agg #[.slice A l.length c, .slice B k.length d]] w fun e w' => e = .returned (.tuple #[.int .i64 (M.bValue l k).1, .bool (M.bValue l k).2]) ∧ Below w.heap.size w w' := by
  obtain ⟨o, ho⟩ : ∃ o : Obj, o = .cells #[.slice A l.length c, .slice B k.length d] 27 := ⟨_, rfl⟩
  have r0 := ha.alloc o
  have t0 := hb.alloc o
  have x0 : K.Box (w.alloc o) w.heap.size [.slice A l.length c, .slice B k.length d] := by rw [ho]; exact K.Box.new _ _ _
  have b0 : Below w.heap.size w (w.alloc o) := (Below.refl w.heap.size w).alloc (Nat.le_refl _) _
  subst ho
  have HS := Lib.hid (i_board A c l B d k _ hl hk r0 t0)
  cases hok : M.bOk l k with
  | false =>
    rw [hok] at HS
    rw [M.bValue_no hok]
    clear hok
    go_enter Try.func30, Try.ntmps30
    go_wp2_with fail
    refine HS.out.mono ?_
    rintro e w1 ⟨rfl, b1⟩
    have hbb := b0.trans (b1.mono b0.size)
    clear b0 b1
    go_wp2_with fail
    go_ret2
    exact ⟨rfl, hbb⟩
  | true =>
    rw [hok] at HS
    have HN := Lib.hid (fun w h h' => i_val A c l B d k w hok h h')
    rw [M.bValue_yes hok]
    clear hok
    go_enter Try.func30, Try.ntmps30
    go_wp2_with fail
    refine HS.out.mono ?_
    rintro e w1 ⟨rfl, b1⟩
    have hbb := b0.trans (b1.mono b0.size)
    have x1 := x0.below b1
    have r1 := r0.below b1
    have t1 := t0.below b1
    obtain ⟨q0, q1⟩ := x1.c2
    have xg := x1.1
    clear b0 b1 x0 r0 t0
    go_wp2_with fail
    refine (HN.out _ r1 t1).mono ?_
    rintro e w2 ⟨rfl, b2⟩
    have hb2 := hbb.trans (b2.mono hbb.size)
    clear hbb b2
    go_wp2_with fail
    go_ret2
    exact ⟨rfl, hb2⟩
set_option maxHeartbeats 1000000 in
theorem i_isplain (A : Option Addr) (c : Nat) (l : List Int) (B : Option Addr) (d : Nat) (k : List Int) (w : World) (hl : l.length ≤ 1048576) (hk : k.length ≤ 1048576) (ha : K.Rd w 1 A l.length (l.map (Value.int .i64))) (hb : K.Rd w 1 B k.length (k.map (Value.int .i64))) :
    Calls Try.prog 26 #[.agg #[.slice A l.length c, .slice B k.length d]] w fun e w' => e = .returned (.tuple #[.bool (M.isPlain l k).1, .bool (M.isPlain l k).2]) ∧ Below w.heap.size w w' := by
  obtain ⟨o, ho⟩ : ∃ o : Obj, o = .cells #[.slice A l.length c, .slice B k.length d] 27 := ⟨_, rfl⟩
  have r0 := ha.alloc o
  have t0 := hb.alloc o
  have x0 : K.Box (w.alloc o) w.heap.size [.slice A l.length c, .slice B k.length d] := by rw [ho]; exact K.Box.new _ _ _
  have b0 : Below w.heap.size w (w.alloc o) := (Below.refl w.heap.size w).alloc (Nat.le_refl _) _
  subst ho
  have HS := Lib.hid (i_board A c l B d k _ hl hk r0 t0)
  cases hok : M.bOk l k with
  | false =>
    rw [hok] at HS
    rw [M.isPlain_no hok]
    clear hok
    go_enter Try.func26, Try.ntmps26
    go_wp2_with fail
    refine HS.out.mono ?_
    rintro e w1 ⟨rfl, b1⟩
    have hbb := b0.trans (b1.mono b0.size)
    clear b0 b1
    go_wp2_with fail
    go_ret2
    exact ⟨rfl, hbb⟩
  | true =>
    rw [hok] at HS
    rw [M.isPlain_yes hok]
    clear hok
    have HL := Lib.hid (fun w h => i_all A c l 0 4 w hl h)
    have HK := Lib.hid (fun w h => i_all B d k 0 1 w hk h)
    have HQ : Hid (M.bPlain l k = ((l.all fun x => M.inR x 0 4) && (k.all fun x => M.inR x 0 1))) := rfl
    generalize M.bPlain l k = R at HQ ⊢
    generalize (l.all fun x => M.inR x 0 4) = RL at *
    generalize (k.all fun x => M.inR x 0 1) = RK at *
    cases RL with
    | true =>
      have HQ' := Lib.hid (show R = RK by rw [HQ.out]; simp)
      go_enter Try.func26, Try.ntmps26
      go_wp2_with fail
      refine HS.out.mono ?_
      rintro e w1 ⟨rfl, b1⟩
      have hbb := b0.trans (b1.mono b0.size)
      have x1 := x0.below b1
      have r1 := r0.below b1
      have t1 := t0.below b1
      obtain ⟨q0, q1⟩ := x1.c2
      have xg := x1.1
      clear b0 b1 x0 r0 t0
      go_wp2_with fail
      refine (HL.out _ r1).mono ?_
      rintro e w2 ⟨rfl, rfl⟩
      go_wp2_with fail
      refine (HK.out _ t1).mono ?_
      rintro e w2 ⟨rfl, rfl⟩
      go_wp2_with fail
      go_ret2
      exact ⟨by rw [HQ'.out]; rfl, hbb⟩
    | false =>
      have HQ' := Lib.hid (show R = false by rw [HQ.out]; simp)
      go_enter Try.func26, Try.ntmps26
      go_wp2_with fail
      refine HS.out.mono ?_
      rintro e w1 ⟨rfl, b1⟩
      have hbb := b0.trans (b1.mono b0.size)
      have x1 := x0.below b1
      have r1 := r0.below b1
      obtain ⟨q0, q1⟩ := x1.c2
      have xg := x1.1
      clear b0 b1 x0 r0 t0
      go_wp2_with fail
      refine (HL.out _ r1).mono ?_
      rintro e w2 ⟨rfl, rfl⟩
      go_wp2_with fail
      go_ret2
      exact ⟨by rw [HQ'.out]; rfl, hbb⟩
end Go.Proofs.Ytmgegacgjppdbaa.BoardF
