/-
  Walks: the value of an amount (printed by gen_value.py).
-/
import Derived.Test.YtfgnmjnlhnpmoaaAmountF
import Derived.Test.YtfgnmjnlhnpmoaaUnitsIn
set_option linter.unusedVariables false
namespace Go.Proofs.Ytfgnmjnlhnpmoaa.M
def aV : List Unit → List Int → Int
  | u :: l, x :: k => (aV l k + x) * u.size
  | _, _ => 0
theorem aV_drop (l : List Unit) (k : List Int) (j : Nat) (h : j < l.length) (h' : j < k.length) : aV (l.drop j) (k.drop j) = (aV (l.drop (j + 1)) (k.drop (j + 1)) + k[j]) * l[j].size := by
  rw [List.drop_eq_getElem_cons h, List.drop_eq_getElem_cons h']; rfl
theorem amtOk_iff (l : List Unit) (k : List Int) : amtOk l k = true ↔ sysOk l = true ∧ k.length = l.length ∧ ∀ x ∈ k, 0 ≤ x ∧ x ≤ 9999 := by
  simp [amtOk, inR_iff, and_assoc]
theorem aV_step {v x s P : Int} (h1 : 0 ≤ v) (h2 : v + 10200 ≤ P) (h3 : 0 ≤ x) (h4 : x ≤ 9999) (h5 : 1 ≤ s) (h6 : s ≤ 100) : 0 ≤ (v + x) * s ∧ (v + x) * s + 10200 ≤ 100 * P := by
  constructor
  · exact Int.mul_nonneg (by omega) (by omega)
  · have a := Int.mul_le_mul_of_nonneg_left h6 (show 0 ≤ v + x by omega)
    omega
theorem aV_bd {l : List Unit} {k : List Int} (h : amtOk l k = true) : ∀ n j, n + j = l.length → 0 ≤ aV (l.drop j) (k.drop j) ∧ aV (l.drop j) (k.drop j) + 10200 ≤ 10200 * 100 ^ n
  | 0, j, hj => by
      rw [List.drop_of_length_le (by omega : l.length ≤ j)]; simp [aV]
  | n + 1, j, hj => by
      obtain ⟨hs, he, hx⟩ := (amtOk_iff l k).1 h
      have ih := aV_bd h n (j + 1) (by omega)
      have z := sysOk_size hs j (by omega)
      have x := hx k[j] (List.getElem_mem _)
      have st := aV_step ih.1 ih.2 x.1 x.2 z.1 z.2
      rw [aV_drop l k j (by omega) (by omega), Int.pow_succ]
      omega
theorem aV_facts {l : List Unit} {k : List Int} (h : amtOk l k = true) (j : Nat) (hj : j ≤ l.length) : 0 ≤ aV (l.drop j) (k.drop j) ∧ aV (l.drop j) (k.drop j) ≤ 10200000000000000 := by
  have hb := aV_bd h (l.length - j) j (by omega)
  have hl := ((sysOk_iff l).1 ((amtOk_iff l k).1 h).1).1
  have hp := pw100 (k := l.length - j) (by omega)
  omega
theorem aV_total {l : List Unit} {k : List Int} (h : amtOk l k = true) : 0 ≤ aV l k ∧ aV l k ≤ 102000000000000 := by
  obtain ⟨hs, he, hx⟩ := (amtOk_iff l k).1 h
  have hl := ((sysOk_iff l).1 hs).1
  have hb := aV_bd h (l.length - 1) 1 (by omega)
  have h5 : (100 : Int) ^ (l.length - 1) ≤ 10000000000 := by
    have h1 : (100 : Nat) ^ (l.length - 1) ≤ 100 ^ 5 := Nat.pow_le_pow_right (by omega) (by omega)
    have h3 : (((100 : Nat) ^ (l.length - 1) : Nat) : Int) = (100 : Int) ^ (l.length - 1) := by simp
    omega
  have e := aV_drop l k 0 (by omega) (by omega)
  rw [List.drop_zero, List.drop_zero] at e
  have u := sys_at _ ((sysOk_iff l).1 hs).2 0 (by omega) (by omega)
  simp only [uOk, Bool.and_eq_true, if_pos] at u
  have s1 := of_decide_eq_true u.2
  have x := hx k[0] (List.getElem_mem _)
  rw [e, s1, Int.mul_one]
  have e1 : (0 : Nat) + 1 = 1 := rfl
  rw [e1]
  omega
theorem aV_inv (u v x s : Int) : u * ((v + x) * s) = x * (u * s) + u * s * v := by
  rw [Int.add_mul, Int.mul_add, Int.mul_left_comm u x s, Int.mul_comm v s, ← Int.mul_assoc, Int.add_comm]
def valueIn (l : List Unit) (k : List Int) : Int × Bool := if amtOk l k = true then (aV l k, true) else (0, false)
theorem valueIn_yes {l : List Unit} {k : List Int} (h : amtOk l k = true) : valueIn l k = (aV l k, true) := by simp [valueIn, h]
theorem valueIn_no {l : List Unit} {k : List Int} (h : amtOk l k = false) : valueIn l k = (0, false) := by simp [valueIn, h]
end Go.Proofs.Ytfgnmjnlhnpmoaa.M
namespace Go.Proofs.Ytfgnmjnlhnpmoaa.Val
open Go.RowKit
set_option maxHeartbeats 2000000 in
theorem s_val (A : Option Addr) (c : Nat) (l : List M.Unit) (B : Option Addr) (d : Nat) (k : List Int) (w : World) (hok : M.amtOk l k = true) (ha : K.Rd w 2 A l.length (l.flatMap M.unitCells)) (hb : K.Rd w 1 B k.length (k.map (Value.int .i64))) :
    Calls Try.prog 69 #[.slice A l.length c, .agg #[.slice B k.length d]] w fun e w' => e = .returned (.int .i64 (M.aV l k)) ∧ Below w.heap.size w w' := by
  obtain ⟨o, ho⟩ : ∃ o : Obj, o = .cells #[.slice B k.length d] 40 := ⟨_, rfl⟩
  have r0 := ha.alloc o
  have t0 := hb.alloc o
  have x0 : K.Box (w.alloc o) w.heap.size [.slice B k.length d] := by rw [ho]; exact K.Box.new _ _ _
  have b0 : Below w.heap.size w (w.alloc o) := (Below.refl w.heap.size w).alloc (Nat.le_refl _) _
  subst ho
  obtain ⟨hsys, he, hx⟩ := (M.amtOk_iff l k).1 hok
  have hl6 := ((M.sysOk_iff l).1 hsys).1.2
  have hz := M.sysOk_size hsys
  have hv := fun j h => M.aV_facts hok j h
  have he1 : l.length ≤ k.length := by omega
  clear hok hsys he ha hb
  go_enter Try.func69, Try.ntmps69
  go_wp2_with fail
  go_loopw [6, 5] (fun i s wr => ∃ n : Nat, n ≤ l.length ∧ i = .int .i64 ((n : Int) - 1) ∧ s = .int .i64 (M.aV (l.drop n) (k.drop n)) ∧ Below (w.alloc (.cells #[.slice B k.length d] 40)).heap.size (w.alloc (.cells #[.slice B k.length d] 40)) wr) (fun i _ _ => (intOf i + 1).toNat)
  case atStart => exact ⟨l.length, Nat.le_refl _, rfl, by rw [List.drop_length]; simp [M.aV], Below.refl _ _⟩
  case round =>
    obtain ⟨n, hn, rfl, rfl, hbb⟩ := hrel
    have x1 := x0.below hbb
    have p0 := x1.c1
    have pg := x1.1
    have r1 := r0.below hbb
    have t1 := t0.below hbb
    have hbw := b0.trans (hbb.mono b0.size)
    cases n with
    | succ j =>
      rw [show ((j + 1 : Nat) : Int) - 1 = j by omega]
      have hlt : j < l.length := by omega
      have hlt2 : j < k.length := by omega
      obtain ⟨z1, z2⟩ := hz j hlt
      obtain ⟨u1, u2⟩ := hx k[j] (List.getElem_mem _)
      obtain ⟨v1, v2⟩ := hv (j + 1) (by omega)
      obtain ⟨v3, v4⟩ := hv j (by omega)
      have HV := M.aV_drop l k j hlt hlt2
      rw [HV] at v3 v4
      replace HV := Lib.hid HV
      obtain ⟨g, o, rfl, hg, c0, c1⟩ := r1.unit hlt
      obtain ⟨g', o', rfl, hcc⟩ := t1.int hlt2
      have h1 : (j : Int) < (l.length : Int) := by omega
      have h1' : (j : Int) < (k.length : Int) := by omega
      have h2 : (0 : Int) ≤ (j : Int) := by omega
      generalize l[j].name = nm at *
      generalize l[j].size = s at *
      generalize k[j] = x at *
      generalize M.aV (l.drop (j + 1)) (k.drop (j + 1)) = v at *
      have HBB := Lib.hid hbb
      clear hbb hbw r1 t1 r0 t0 x0 x1 hz hx hv
      go_wp2_with fail
      go_roundw
      case rel => exact ⟨j, by omega, by first | rfl | go_num, by rw [HV.out], HBB.out⟩
      case measure => simp [intOf]
    | zero =>
      rw [List.drop_zero, List.drop_zero]
      go_wp2
      go_ret
      exact ⟨rfl, hbw⟩
set_option maxHeartbeats 2000000 in
theorem i_val (A : Option Addr) (c : Nat) (l : List M.Unit) (B : Option Addr) (d : Nat) (k : List Int) (w : World) (hok : M.amtOk l k = true) (ha : K.Rd w 2 A l.length (l.flatMap M.unitCells)) (hb : K.Rd w 1 B k.length (k.map (Value.int .i64))) :
    Calls Try.prog 70 #[.slice A l.length c, .agg #[.slice B k.length d]] w fun e w' => e = .returned (.int .i64 (M.aV l k)) ∧ Below w.heap.size w w' := by
  obtain ⟨o, ho⟩ : ∃ o : Obj, o = .cells #[.slice B k.length d] 40 := ⟨_, rfl⟩
  have r0 := ha.alloc o
  have t0 := hb.alloc o
  have x0 : K.Box (w.alloc o) w.heap.size [.slice B k.length d] := by rw [ho]; exact K.Box.new _ _ _
  have b0 : Below w.heap.size w (w.alloc o) := (Below.refl w.heap.size w).alloc (Nat.le_refl _) _
  subst ho
  obtain ⟨hsys, he, hx⟩ := (M.amtOk_iff l k).1 hok
  have hl6 := ((M.sysOk_iff l).1 hsys).1.2
  have hz := M.sysOk_size hsys
  have hv := fun j h => M.aV_facts hok j h
  have he1 : l.length ≤ k.length := by omega
  have he2 : k.length ≤ l.length := by omega
  have HR : ∃ R, R = M.aV l k := ⟨_, rfl⟩
  obtain ⟨R, hR⟩ := HR
  have HR := Lib.hid hR
  rw [← hR]
  clear hok hsys he ha hb hR
  go_enter Try.func70, Try.ntmps70
  go_wp2_with fail
  go_loopw [12, 5, 6] (fun i s u wr => ∃ (j : Nat) (val unit : Int), j ≤ k.length ∧ i = .int .i64 j ∧ s = .int .i64 val ∧ u = .int .i64 unit ∧ Hid (val + unit * M.aV (l.drop j) (k.drop j) = R) ∧ Hid (1 ≤ unit ∧ unit ≤ 100 ^ j) ∧ (0 ≤ val ∧ val ≤ 10000000000000000 * j) ∧ Below (w.alloc (.cells #[.slice B k.length d] 40)).heap.size (w.alloc (.cells #[.slice B k.length d] 40)) wr) (fun i _ _ _ => k.length - (intOf i).toNat)
  case atStart => exact ⟨0, 0, 1, Nat.zero_le _, rfl, rfl, rfl, Lib.hid (by rw [List.drop_zero, List.drop_zero, HR.out]; omega), Lib.hid (by simp), by simp, Below.refl _ _⟩
  case round =>
    obtain ⟨j, val, unit, hj, rfl, rfl, rfl, hinv, hu, ⟨hv1, hv2⟩, hbb⟩ := hrel
    have r1 := r0.below hbb
    have t1 := t0.below hbb
    have hbw := b0.trans (hbb.mono b0.size)
    by_cases hlt2 : j < k.length
    · have hlt : j < l.length := by omega
      obtain ⟨z1, z2⟩ := hz j hlt
      obtain ⟨u1, u2⟩ := hx k[j] (List.getElem_mem _)
      have HV := Lib.hid (M.aV_drop l k j hlt hlt2)
      obtain ⟨g, o, rfl, hg, c0, c1⟩ := r1.unit hlt
      obtain ⟨g', o', rfl, hcc⟩ := t1.int hlt2
      have h1 : (j : Int) < (l.length : Int) := by omega
      have h1' : (j : Int) < (k.length : Int) := by omega
      have h2 : (0 : Int) ≤ (j : Int) := by omega
      generalize l[j].name = nm at *
      generalize l[j].size = s at *
      generalize k[j] = x at *
      have hm := M.mul100 hu.out.1 hu.out.2 z1 z2
      have hp := M.pw100 (k := j + 1) (by omega)
      have HN := Lib.hid (show 1 ≤ unit * s ∧ unit * s ≤ 100 ^ (j + 1) by rw [Int.pow_succ]; exact hm)
      rw [Int.pow_succ] at hp
      have hm2 : 1 ≤ unit * s ∧ unit * s ≤ 1000000000000 := ⟨hm.1, Int.le_trans hm.2 hp⟩
      obtain ⟨m1, m2⟩ := hm2
      have HI := Lib.hid (show val + x * (unit * s) + (unit * s) * M.aV (l.drop (j + 1)) (k.drop (j + 1)) = R by
        have h := hinv.out
        rw [HV.out, M.aV_inv] at h
        omega)
      have w1 : 0 ≤ x * (unit * s) := Int.mul_nonneg u1 (by omega)
      have w2 : x * (unit * s) ≤ 9999000000000000 := by
        have a := Int.mul_le_mul_of_nonneg_right u2 (show 0 ≤ unit * s by omega)
        omega
      have HBB := Lib.hid hbb
      clear hbb hbw r1 t1 r0 t0 x0 hz hx hv hm hp hinv HV
      generalize hun : unit * s = un at *
      have HUN := Lib.hid hun
      clear hun
      generalize hxu : x * un = xu at *
      have HXU := Lib.hid hxu
      clear hxu
      rw [← HUN.out] at m1 m2
      rw [← HXU.out, ← HUN.out] at w1 w2
      go_wp2_with fail
      go_roundw
      case rel => exact ⟨j + 1, val + x * (unit * s), unit * s, by omega, by go_num, rfl, rfl, Lib.hid (by rw [HUN.out, HXU.out]; exact HI.out), Lib.hid (by rw [HUN.out]; exact HN.out), ⟨by omega, by omega⟩, HBB.out⟩
      case measure => simp [intOf]; omega
    · obtain rfl : j = k.length := by omega
      have HK := Lib.hid (show R = val by
        have h := hinv.out
        rw [List.drop_length, List.drop_of_length_le he1] at h
        simp [M.aV] at h; exact h.symm)
      go_wp2_with fail
      go_ret
      exact ⟨K.ret_int HK.out.symm, hbw⟩
set_option maxHeartbeats 1000000 in
theorem i_valuein (A : Option Addr) (c : Nat) (l : List M.Unit) (B : Option Addr) (d : Nat) (k : List Int) (w : World) (hl : l.length ≤ 1048576) (hk : k.length ≤ 1048576) (hs : ∀ u ∈ l, u.name.size ≤ 9223372036854775807) (hc : l.length ≤ c) (hc2 : c ≤ 9223372036854775807) (ha : K.Rd w 2 A l.length (l.flatMap M.unitCells)) (hb : K.Rd w 1 B k.length (k.map (Value.int .i64))) :
    Calls Try.prog 30 #[.slice A l.length c, .agg #[.slice B k.length d]] w fun e w' => e = .returned (.tuple #[.int .i64 (M.valueIn l k).1, .bool (M.valueIn l k).2]) ∧ Below w.heap.size w w' := by
  obtain ⟨o, ho⟩ : ∃ o : Obj, o = .cells #[.slice B k.length d] 40 := ⟨_, rfl⟩
  have r0 := ha.alloc o
  have t0 := hb.alloc o
  have x0 : K.Box (w.alloc o) w.heap.size [.slice B k.length d] := by rw [ho]; exact K.Box.new _ _ _
  have b0 : Below w.heap.size w (w.alloc o) := (Below.refl w.heap.size w).alloc (Nat.le_refl _) _
  subst ho
  have HS := Lib.hid (AmountF.i_amount A c l B d k _ hl hk hs hc hc2 r0 t0)
  cases hok : M.amtOk l k with
  | false =>
    rw [hok] at HS
    rw [M.valueIn_no hok]
    clear hok
    go_enter Try.func30, Try.ntmps30
    go_wp2_with fail
    refine HS.out.mono ?_
    rintro e w1 ⟨rfl, b1⟩
    have hbb := b0.trans (b1.mono b0.size)
    clear b0 b1
    go_wp2_with fail
    go_ret2
    exact ⟨rfl, hbb⟩
  | true =>
    rw [hok] at HS
    have HN := Lib.hid (fun w h h' => i_val A c l B d k w hok h h')
    rw [M.valueIn_yes hok]
    clear hok
    go_enter Try.func30, Try.ntmps30
    go_wp2_with fail
    refine HS.out.mono ?_
    rintro e w1 ⟨rfl, b1⟩
    have hbb := b0.trans (b1.mono b0.size)
    have x1 := x0.below b1
    have r1 := r0.below b1
    have t1 := t0.below b1
    have q0 := x1.c1
    have xg := x1.1
    clear b0 b1 x0 r0 t0
    go_wp2_with fail
    refine (HN.out _ r1 t1).mono ?_
    rintro e w2 ⟨rfl, b2⟩
    have hb2 := hbb.trans (b2.mono hbb.size)
    clear hbb b2
    go_wp2_with fail
    go_ret2
    exact ⟨rfl, hb2⟩
set_option maxHeartbeats 1000000 in
theorem s_valuein (A : Option Addr) (c : Nat) (l : List M.Unit) (B : Option Addr) (d : Nat) (k : List Int) (w : World) (hl : l.length ≤ 1048576) (hk : k.length ≤ 1048576) (hs : ∀ u ∈ l, u.name.size ≤ 9223372036854775807) (hc : l.length ≤ c) (hc2 : c ≤ 9223372036854775807) (ha : K.Rd w 2 A l.length (l.flatMap M.unitCells)) (hb : K.Rd w 1 B k.length (k.map (Value.int .i64))) :
    Calls Try.prog 29 #[.slice A l.length c, .agg #[.slice B k.length d]] w fun e w' => e = .returned (.tuple #[.int .i64 (M.valueIn l k).1, .bool (M.valueIn l k).2]) ∧ Below w.heap.size w w' := by
  obtain ⟨o, ho⟩ : ∃ o : Obj, o = .cells #[.slice B k.length d] 40 := ⟨_, rfl⟩
  have r0 := ha.alloc o
  have t0 := hb.alloc o
  have x0 : K.Box (w.alloc o) w.heap.size [.slice B k.length d] := by rw [ho]; exact K.Box.new _ _ _
  have b0 : Below w.heap.size w (w.alloc o) := (Below.refl w.heap.size w).alloc (Nat.le_refl _) _
  subst ho
  have HS := Lib.hid (AmountF.s_amt A c l B d k _ hl hk hs hc hc2 r0 t0)
  cases hok : M.amtOk l k with
  | false =>
    rw [hok] at HS
    rw [M.valueIn_no hok]
    clear hok
    go_enter Try.func29, Try.ntmps29
    go_wp2_with fail
    refine HS.out.mono ?_
    rintro e w1 ⟨rfl, b1⟩
    have hbb := b0.trans (b1.mono b0.size)
    clear b0 b1
    go_wp2_with fail
    go_ret2
    exact ⟨rfl, hbb⟩
  | true =>
    rw [hok] at HS
    have HN := Lib.hid (fun w h h' => s_val A c l B d k w hok h h')
    rw [M.valueIn_yes hok]
    clear hok
    go_enter Try.func29, Try.ntmps29
    go_wp2_with fail
    refine HS.out.mono ?_
    rintro e w1 ⟨rfl, b1⟩
    have hbb := b0.trans (b1.mono b0.size)
    have x1 := x0.below b1
    have r1 := r0.below b1
    have t1 := t0.below b1
    have q0 := x1.c1
    have xg := x1.1
    clear b0 b1 x0 r0 t0
    go_wp2_with fail
    refine (HN.out _ r1 t1).mono ?_
    rintro e w2 ⟨rfl, b2⟩
    have hb2 := hbb.trans (b2.mono hbb.size)
    clear hbb b2
    go_wp2_with fail
    go_ret2
    exact ⟨rfl, hb2⟩
end Go.Proofs.Ytfgnmjnlhnpmoaa.Val
