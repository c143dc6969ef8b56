/-
  Walks: amounts in a system.
-/
import Derived.Test.YtfgnmjnlhnpmoaaSystem
import Derived.Test.YtfgnmjnlhnpmoaaIntAll
import Derived.Test.YtfgnmjnlhnpmoaaKit3
set_option linter.unusedVariables false
namespace Go.Proofs.Ytfgnmjnlhnpmoaa.M
def amtOk (l : List Unit) (k : List Int) : Bool := sysOk l && decide (k.length = l.length) && k.all (fun x => inR x 0 9999)
end Go.Proofs.Ytfgnmjnlhnpmoaa.M
namespace Go.Proofs.Ytfgnmjnlhnpmoaa.AmountF
open Go.RowKit
set_option maxHeartbeats 1000000 in
theorem i_amount (A : Option Addr) (c : Nat) (l : List M.Unit) (B : Option Addr) (d : Nat) (k : List Int) (w : World) (hl : l.length ≤ 1048576) (hk : k.length ≤ 1048576) (hs : ∀ u ∈ l, u.name.size ≤ 9223372036854775807) (hc : l.length ≤ c) (hc2 : c ≤ 9223372036854775807) (ha : K.Rd w 2 A l.length (l.flatMap M.unitCells)) (hb : K.Rd w 1 B k.length (k.map (Value.int .i64))) :
    Calls Try.prog 27 #[.slice A l.length c, .agg #[.slice B k.length d]] w fun e w' => e = .returned (.bool (M.amtOk l k)) ∧ Below w.heap.size w w' := by
  have HF : Hid (M.amtOk l k = (M.sysOk l && decide (k.length = l.length) && k.all (fun x => M.inR x 0 9999))) := rfl
  generalize M.amtOk l k = R at HF ⊢
  obtain ⟨o, ho⟩ : ∃ o : Obj, o = .cells #[.slice B k.length d] 40 := ⟨_, rfl⟩
  have r0 := ha.alloc o
  have t0 := hb.alloc o
  have x0 : K.Box (w.alloc o) w.heap.size [.slice B k.length d] := by rw [ho]; exact K.Box.new _ _ _
  have b0 : Below w.heap.size w (w.alloc o) := (Below.refl w.heap.size w).alloc (Nat.le_refl _) _
  subst ho
  have HS := Lib.hid (Sys.i_sys A c l _ hl hs hc hc2 r0)
  have HA := Lib.hid (fun w h => IntAll.i_all B d k 0 9999 w hk h)
  generalize M.sysOk l = bs at *
  generalize (k.all fun x => M.inR x 0 9999) = ba at *
  clear ha hb hs r0
  cases bs with
  | false =>
    have HK := Lib.hid (show R = false by rw [HF.out]; rfl)
    clear HF
    go_enter Try.func27, Try.ntmps27
    go_wp2_with fail
    refine HS.out.mono ?_
    rintro e w1 ⟨rfl, b1⟩
    have bb := b0.trans (b1.mono b0.size)
    clear b0 b1
    go_wp2_with fail
    go_ret
    exact ⟨K.ret_bool HK.out.symm, bb⟩
  | true =>
    by_cases he : k.length = l.length
    · have hd : ((k.length : Int) == (l.length : Int)) = true := by rw [he]; simp
      have HK := Lib.hid (show R = ba by rw [HF.out]; simp [he])
      clear HF he
      go_enter Try.func27, Try.ntmps27
      go_wp2_with fail
      refine HS.out.mono ?_
      rintro e w1 ⟨rfl, b1⟩
      have bb := b0.trans (b1.mono b0.size)
      have x1 := x0.below b1
      have t1 := t0.below b1
      have p0 := x1.c1
      have pg := x1.1
      clear b0 b1 x0 t0
      go_wp2_with fail
      refine (HA.out _ t1).mono ?_
      rintro e w2 ⟨rfl, rfl⟩
      go_wp2_with fail
      go_ret
      exact ⟨K.ret_bool HK.out.symm, bb⟩
    · have hd : ((k.length : Int) == (l.length : Int)) = false := beq_eq_false_iff_ne.2 (by omega)
      have HK := Lib.hid (show R = false by rw [HF.out]; simp [he])
      clear HF he
      go_enter Try.func27, Try.ntmps27
      go_wp2_with fail
      refine HS.out.mono ?_
      rintro e w1 ⟨rfl, b1⟩
      have bb := b0.trans (b1.mono b0.size)
      have x1 := x0.below b1
      have p0 := x1.c1
      have pg := x1.1
      clear b0 b1 x0 t0
      go_wp2_with fail
      go_ret
      exact ⟨K.ret_bool HK.out.symm, bb⟩
set_option maxHeartbeats 2000000 in
theorem s_amt (A : Option Addr) (c : Nat) (l : List M.Unit) (B : Option Addr) (d : Nat) (k : List Int) (w : World) (hl : l.length ≤ 1048576) (hk : k.length ≤ 1048576) (hs : ∀ u ∈ l, u.name.size ≤ 9223372036854775807) (hc : l.length ≤ c) (hc2 : c ≤ 9223372036854775807) (ha : K.Rd w 2 A l.length (l.flatMap M.unitCells)) (hb : K.Rd w 1 B k.length (k.map (Value.int .i64))) :
    Calls Try.prog 65 #[.slice A l.length c, .agg #[.slice B k.length d]] w fun e w' => e = .returned (.bool (M.amtOk l k)) ∧ Below w.heap.size w w' := by
  have HF : Hid (M.amtOk l k = (M.sysOk l && decide (k.length = l.length) && k.all (fun x => M.inR x 0 9999))) := rfl
  generalize M.amtOk l k = R at HF ⊢
  obtain ⟨o, ho⟩ : ∃ o : Obj, o = .cells #[.slice B k.length d] 40 := ⟨_, rfl⟩
  have r0 := ha.alloc o
  have t0 := hb.alloc o
  have x0 : K.Box (w.alloc o) w.heap.size [.slice B k.length d] := by rw [ho]; exact K.Box.new _ _ _
  have b0 : Below w.heap.size w (w.alloc o) := (Below.refl w.heap.size w).alloc (Nat.le_refl _) _
  subst ho
  have HS := Lib.hid (fun w h => Sys.s_sys A c l w hl hs hc hc2 h)
  clear ha hb hs
  go_enter Try.func65, Try.ntmps65
  go_wp2_with fail
  go_loopw [5] (fun i wr => ∃ j : Nat, j ≤ k.length ∧ i = .int .i64 j ∧ Hid (((k.take j).all fun x => M.inR x 0 9999) = true) ∧ Below (w.alloc (.cells #[.slice B k.length d] 40)).heap.size (w.alloc (.cells #[.slice B k.length d] 40)) wr) (fun i _ => k.length - (intOf i).toNat)
  case atStart => exact ⟨0, Nat.zero_le _, rfl, Lib.hid (by simp), Below.refl _ _⟩
  case round =>
    obtain ⟨j, hj, rfl, hall, hbb⟩ := hrel
    have x1 := x0.below hbb
    have p0 := x1.c1
    have pg := x1.1
    have t1 := t0.below hbb
    have r1 := r0.below hbb
    have hbw := b0.trans (hbb.mono b0.size)
    by_cases hlt : j < k.length
    · obtain ⟨g, o, rfl, hcc⟩ := t1.int hlt
      have h1 : (j : Int) < (k.length : Int) := by omega
      have h2 : (0 : Int) ≤ (j : Int) := by omega
      have HA := Lib.hid (M.all_take_succ (fun x => M.inR x 0 9999) k j hlt)
      generalize k[j] = x at *
      have HBB := Lib.hid hbb
      have HBW := Lib.hid hbw
      clear hbb hbw r1 t1 r0 t0 x0 x1
      by_cases hx : 0 ≤ x ∧ x ≤ 9999
      · obtain ⟨hx1, hx2⟩ := hx
        have HK := Lib.hid (show ((k.take (j + 1)).all fun x => M.inR x 0 9999) = true by rw [HA.out, hall.out, M.inR_yes hx1 hx2]; rfl)
        go_wp2_with (go_at_call 54; refine (Base.s_in_yes _ _ _ _ (by omega) (by omega)).mono ?_; rintro e w1 ⟨rfl, rfl⟩)
        go_roundw
        case rel => exact ⟨j + 1, by omega, by go_num, HK, HBB.out⟩
        case measure => simp [intOf]; omega
      · have HK := Lib.hid (show R = false by rw [HF.out, M.all_take_false (l := k) (k := j + 1) (by rw [HA.out, M.inR_no (n := x) (by omega)]; simp)]; simp)
        go_wp2_with (go_at_call 54; refine (Base.s_in_no _ _ _ _ (by omega)).mono ?_; rintro e w1 ⟨rfl, rfl⟩)
        go_ret
        exact ⟨K.ret_bool HK.out.symm, HBW.out⟩
    · obtain rfl : j = k.length := by omega
      have ha' := hall.out
      rw [List.take_length] at ha'
      have HQ := Lib.hid (show R = (M.sysOk l && decide (k.length = l.length)) by rw [HF.out, ha', Bool.and_true])
      replace HS := Lib.hid (HS.out _ r1)
      generalize M.sysOk l = bs at *
      clear ha' hall hbb
      cases bs with
      | false =>
        have HK := Lib.hid (show R = false by rw [HQ.out]; rfl)
        go_wp2_with fail
        refine HS.out.mono ?_
        rintro e w1 ⟨rfl, b1⟩
        have bb := hbw.trans (b1.mono hbw.size)
        go_wp2_with fail
        go_ret
        exact ⟨K.ret_bool HK.out.symm, bb⟩
      | true =>
        have HK := Lib.hid (show R = ((k.length : Int) == (l.length : Int)) by rw [HQ.out, Bool.true_and]; by_cases e : k.length = l.length <;> simp [e] <;> omega)
        go_wp2_with fail
        refine HS.out.mono ?_
        rintro e w1 ⟨rfl, b1⟩
        have bb := hbw.trans (b1.mono hbw.size)
        have x2 := x1.below b1
        clear p0 pg
        have p0 := x2.c1
        have pg := x2.1
        go_wp2_with fail
        go_ret
        exact ⟨K.ret_bool HK.out.symm, bb⟩
theorem s_isamt (A : Option Addr) (c : Nat) (l : List M.Unit) (B : Option Addr) (d : Nat) (k : List Int) (w : World) (hl : l.length ≤ 1048576) (hk : k.length ≤ 1048576) (hs : ∀ u ∈ l, u.name.size ≤ 9223372036854775807) (hc : l.length ≤ c) (hc2 : c ≤ 9223372036854775807) (ha : K.Rd w 2 A l.length (l.flatMap M.unitCells)) (hb : K.Rd w 1 B k.length (k.map (Value.int .i64))) :
    Calls Try.prog 25 #[.slice A l.length c, .agg #[.slice B k.length d]] w fun e w' => e = .returned (.bool (M.amtOk l k)) ∧ Below w.heap.size w w' := by
  go_enter Try.func25, Try.ntmps25
  go_wp2_with fail
  refine (s_amt A c l B d k _ hl hk hs hc hc2 (ha.alloc _) (hb.alloc _)).mono ?_
  rintro e w1 ⟨rfl, b1⟩
  have hb0 : Below w.heap.size w w1 := ((Below.refl w.heap.size w).alloc (Nat.le_refl _) _).trans (b1.mono (by simp))
  clear b1
  go_wp2
  go_ret
  exact ⟨rfl, hb0⟩
end Go.Proofs.Ytfgnmjnlhnpmoaa.AmountF
