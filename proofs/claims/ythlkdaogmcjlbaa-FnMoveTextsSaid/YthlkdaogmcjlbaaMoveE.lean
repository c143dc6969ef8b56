/-
  Walks: the draw of a move of beads (printed by gen_mbead.py).
-/
import Derived.Test.YthlkdaogmcjlbaaMoveD
import Derived.Test.YthlkdaogmcjlbaaMoveN
set_option linter.unusedVariables false
namespace Go.Proofs.Ythlkdaogmcjlbaa.MoveD
open Go.RowKit
theorem s_least (x y : Int) (w : World) :
    Calls Try.prog 116 #[.int .i64 x, .int .i64 y] w fun e w' => e = .returned (.int .i64 (if x < y then x else y)) ∧ w = w' := by
  by_cases hn : x < y
  · rw [if_pos hn]
    go_enter Try.func116, Try.ntmps116
    go_wp2
    go_ret
    exact ⟨rfl, rfl⟩
  · rw [if_neg hn]
    go_enter Try.func116, Try.ntmps116
    go_wp2
    go_ret
    exact ⟨rfl, rfl⟩
/-- a frame's box at w.heap.size, the result's behind it, beside a cursor. -/
structure Be (w wr : World) (lo g Bq : Nat) (A : Option Addr) (c : Nat) (f : M.Frame) : Prop where
  row : K.Rd wr 2 A f.rods.length (f.rods.flatMap M.rodCells)
  box : K.Box wr w.heap.size [.int .i64 f.upper, .int .i64 f.lower, .slice A f.rods.length c]
  res : K.Own wr (w.heap.size + 1) [.int .i64 0, .int .i64 0, .int .i64 0]
  na : 0 < f.rods.length → ∀ q, K.blk A = some q → q ≠ g ∧ q < w.heap.size
  cur : K.Cur wr lo g Bq
  gro : w.grownBy wr (some g)
  glt : g < w.heap.size
section
variable {w wr w2 : World} {lo g Bq b : Nat} {A : Option Addr} {c : Nat} {f : M.Frame}
theorem Be.alloc (F : Be w wr lo g Bq A c f) (o : Obj) : Be w (wr.alloc o) lo g Bq A c f :=
  ⟨F.row.alloc o, F.box.alloc o, F.res.alloc o, F.na, F.cur.alloc o, K.grown_trans F.gro (K.grown_below ((Below.refl _ _).alloc (Nat.le_refl _) _) _), F.glt⟩
theorem Be.went {n : Nat} (F : Be w wr lo g Bq A c f) (h : K.Went wr lo g Bq n w2) : Be w w2 lo g (Bq + n) A c f :=
  ⟨F.row.kept0 h.2 (fun hn q hq e => (F.na hn q hq).1 (Option.some.inj e).symm), F.box.kept h.2 (fun e => by injection e with e; have := F.glt; omega), F.res.kept h.2 (fun e => by injection e with e; have := F.glt; omega), F.na, h.1, K.grown_trans F.gro h.2, F.glt⟩
theorem Be.more {Bq' : Nat} (F : Be w wr lo g Bq A c f) (h : Bq ≤ Bq') : Be w wr lo g Bq' A c f := ⟨F.row, F.box, F.res, F.na, F.cur.mono h, F.gro, F.glt⟩
theorem Be.set (F : Be w wr lo g Bq A c f) {p : Addr} (hp : w.heap.size + 1 < p.block) (u : Value) : Be w (wr.setCell p u) lo g Bq A c f :=
  ⟨F.row.kept0 (K.setCell_grown wr p u) (fun hn q hq e => by have := (F.na hn q hq).2; have := Option.some.inj e; omega), F.box.kept (K.setCell_grown wr p u) (fun e => by injection e with e; omega), F.res.setOther (by omega) u, F.na, F.cur.kept (K.setCell_grown wr p u) (fun q hq => by injection hq with hq; have := F.cur.lt; have := F.glt; omega) (fun e => by injection e with e; have := F.glt; omega), grow_low F.gro (lo := w.heap.size) ((Below.refl _ _).setCell (by omega) u) (Nat.le_refl _), F.glt⟩
theorem Be.fin {B0 n : Nat} (F : Be w wr lo g Bq A c f) (hB : Bq ≤ B0 + n) (x y z : Value) : K.Went w lo g B0 n (((wr.setCell ⟨w.heap.size + 1, 0, none⟩ x).setCell ⟨w.heap.size + 1, 1, none⟩ y).setCell ⟨w.heap.size + 1, 2, none⟩ z) := by
  have hc : Cg w wr lo g Bq := ⟨F.cur, F.gro, F.glt⟩
  exact (((hc.set (p := ⟨w.heap.size + 1, 0, none⟩) (by simp) x).set (p := ⟨w.heap.size + 1, 1, none⟩) (by simp) y).set (p := ⟨w.heap.size + 1, 2, none⟩) (by simp) z).fin hB
end
set_option maxRecDepth 100000 in
set_option maxHeartbeats 4000000 in
theorem bead (f : M.Frame) (A : Option Addr) (c : Nat) (w : World) (lo g B : Nat) (h : K.Cur w lo g B) (hB : B ≤ 1000000) (hl : f.rods.length ≤ 1048576) (ha : K.Rd w 2 A f.rods.length (f.rods.flatMap M.rodCells)) (hna : 0 < f.rods.length → ∀ q, K.blk A = some q → q ≠ g) :
    Calls Try.prog 112 #[.pointer (some ⟨g, 0, none⟩), .agg #[.int .i64 f.upper, .int .i64 f.lower, .slice A f.rods.length c]] w fun e w' => ∃ p : M.Move, e = .returned (.agg #[.int .i64 p.rod, .int .i64 p.part, .int .i64 p.by_]) ∧ K.Went w lo g B 40 w' := by
  have hglt := h.lt.2
  have hna2 : 0 < f.rods.length → ∀ q, K.blk A = some q → q ≠ g ∧ q < w.heap.size := fun hn q hq => ⟨hna hn q hq, by obtain ⟨q2, o2, e2, h2, _⟩ := ha.rod hn; rw [e2] at hq; have : q2 = q := Option.some.inj hq; omega⟩
  have E : Hid (Be w ((w.alloc (.cells #[.int .i64 f.upper, .int .i64 f.lower, .slice A f.rods.length c] 33)).alloc (.cells #[.int .i64 0, .int .i64 0, .int .i64 0] 25)) lo g B A c f) := Lib.hid ⟨(ha.alloc _).alloc _, by have h := K.Box.new w #[.int .i64 f.upper, .int .i64 f.lower, .slice A f.rods.length c] 33; exact h.alloc _, by have h := K.Own.new (w.alloc (.cells #[.int .i64 f.upper, .int .i64 f.lower, .slice A f.rods.length c] 33)) #[.int .i64 0, .int .i64 0, .int .i64 0] 25; rw [World.size_alloc] at h; exact h, hna2, (h.alloc _).alloc _, K.grown_below (((Below.refl _ _).alloc (Nat.le_refl _) _).alloc (by simp) _) _, hglt⟩
  clear h ha hna hna2
  obtain ⟨X, hX⟩ : ∃ X : Int, X = if (f.rods.length : Int) < 1 then 1 else (f.rods.length : Int) := ⟨_, rfl⟩
  have hX1 : 0 < f.rods.length → X = (f.rods.length : Int) := fun h => by rw [hX, if_neg (by omega)]
  have HM := Lib.hid (show ∀ w : World, Calls Try.prog 106 #[.int .i64 1, .int .i64 (f.rods.length : Int)] w fun e w' => e = .returned (.int .i64 X) ∧ w = w' from fun w => by rw [hX]; exact MoveN.s_most _ _ w)
  clear hX
  go_enter Try.func112, Try.ntmps112
  obtain ⟨b0, b1, b2⟩ := E.out.box.c3
  go_wp2_with fail
  refine (HM.out _).mono ?_
  rintro e w1 ⟨rfl, rfl⟩
  clear b0 b1 b2 HM
  go_wp2_with fail
  refine (Cur.pick _ lo g _ X E.out.cur (by omega)).mono ?_
  rintro e w2 ⟨r, rfl, ⟨r0, r1⟩, q2⟩
  replace E := Lib.hid (E.out.went q2)
  clear q2
  obtain ⟨k, rfl⟩ := Int.eq_ofNat_of_zero_le r0
  have hk : 0 < f.rods.length → k < f.rods.length := fun h => by have := hX1 h; omega
  clear r0 r1 hX1
  go_wp2_with fail
  refine (Cur.pick _ lo g _ 2 E.out.cur (by omega)).mono ?_
  rintro e w3 ⟨p, rfl, _, q3⟩
  replace E := Lib.hid (E.out.went q3)
  clear q3
  go_wp2_with fail
  refine (Cur.among _ lo g _ (some ⟨w3.heap.size, 0, none⟩) 8 [1, 1, -1, 2, -2, 4, -3, 5] (E.out.cur.alloc _) (by omega) (by decide) (K.Rd.new w3 #[.int .i64 (1), .int .i64 (1), .int .i64 (-1), .int .i64 (2), .int .i64 (-2), .int .i64 (4), .int .i64 (-3), .int .i64 (5)] 3 8 1 rfl) (fun e => by have : w3.heap.size = g := Option.some.inj e; have := E.out.gro.size; omega)).mono ?_
  rintro e w4 ⟨y, rfl, _, q4⟩
  replace q4 := K.Went.alloc _ q4
  replace E := Lib.hid (E.out.went q4)
  clear q4
  have hmb : w.heap.size + 1 < w4.heap.size := E.out.res.1.1
  have MM : Hid (K.Own (w4.alloc (.cells #[.int .i64 (k : Int), .int .i64 p, .int .i64 y] 25)) w4.heap.size [.int .i64 (k : Int), .int .i64 p, .int .i64 y]) := Lib.hid (K.Own.new w4 #[.int .i64 (k : Int), .int .i64 p, .int .i64 y] 25)
  replace E := Lib.hid (E.out.alloc (.cells #[.int .i64 (k : Int), .int .i64 p, .int .i64 y] 25))
  obtain ⟨b0, b1, b2⟩ := E.out.box.c3
  go_upto_region 2 with fail
  generalize w4.heap.size = b at *
  go_cut [27] (fun v wx => ∃ bb : Bool, v = .bool bb ∧ (bb = true → 0 < f.rods.length) ∧ Be w wx lo g (B + 20) A c f ∧ K.Own wx b [.int .i64 (k : Int), .int .i64 p, .int .i64 y])
  case first =>
    by_cases hn : 0 < f.rods.length
    · have hn1 : (0 : Int) < (f.rods.length : Int) := by omega
      go_wp2_with fail
      refine (Cur.one _ lo g _ 4 E.out.cur (by omega)).mono ?_
      rintro e w5 ⟨bo, rfl, q5⟩
      replace E := Lib.hid (E.out.went q5)
      replace MM := Lib.hid (MM.out.kept q5.2 (fun e => by injection e with e; omega))
      clear q5
      clear b0 b1 b2
      go_wp2_with fail
      go_meet
      exact ⟨_, rfl, fun _ => hn, E.out.more (by omega), MM.out⟩
    · have hn1 : ¬ (0 : Int) < (f.rods.length : Int) := by omega
      go_wp2_with fail
      go_meet
      exact ⟨_, rfl, fun h => by first | exact absurd h (by simp) | (simp at h), E.out.more (by omega), MM.out⟩
  obtain ⟨bb, rfl, hbb, E0, M0⟩ := hcut
  rename World => wq
  replace E := Lib.hid E0
  replace MM := Lib.hid M0
  clear E0 M0 b0 b1 b2
  go_upto_if 27 with fail
  go_cut [] (fun wx => ∃ x1 x2 x3 : Int, Be w wx lo g (B + 30) A c f ∧ K.Own wx b [.int .i64 x1, .int .i64 x2, .int .i64 x3])
  case first =>
    cases bb with
    | false =>
      go_wp2_with fail
      go_meet
      exact ⟨_, _, _, E.out.more (by omega), MM.out⟩
    | true =>
      replace hk := hk (hbb rfl)
      obtain ⟨q, o, rfl, hq, c0, c1⟩ := E.out.row.rod hk
      generalize f.rods[k].1 = u at *
      generalize f.rods[k].2 = v at *
      have hk1 : (k : Int) < (f.rods.length : Int) := by omega
      have hk0 : (0 : Int) ≤ (k : Int) := by omega
      obtain ⟨b0, b1, b2⟩ := E.out.box.c3
      have bg := E.out.box.1
      obtain ⟨m0, m1, m2, mf0, mf1, mf2, mg⟩ := MM.out.c3
      by_cases hp : p = 0
      · have hp1 : (p == 0) = true := by rw [beq_iff_eq]; exact hp
        obtain ⟨Y, hY⟩ : ∃ Y : Int, Y = if (1 : Int) < u then 1 else u := ⟨_, rfl⟩
        have HM := Lib.hid (show ∀ w : World, Calls Try.prog 116 #[.int .i64 1, .int .i64 u] w fun e w' => e = .returned (.int .i64 Y) ∧ w = w' from fun w => by rw [hY]; exact s_least _ _ w)
        clear hY hp
        go_wp2_with fail
        refine (HM.out _).mono ?_
        rintro e w5 ⟨rfl, rfl⟩
        try clear b0 b1 b2 bg
        try clear m0 m1 m2 mf0 mf1 mf2 mg
        replace E := Lib.hid (E.out.alloc (.cells #[.int .i64 u, .int .i64 v] 74))
        replace MM := Lib.hid (MM.out.alloc (.cells #[.int .i64 u, .int .i64 v] 74))
        skip
        obtain ⟨m0, m1, m2, mf0, mf1, mf2, mg⟩ := MM.out.c3
        have E5 := Lib.hid (E.out.set (p := ⟨b, 2, none⟩) hmb (.int .i64 (wrap64 (1 - wrap64 (2 * Y)))))
        have M5 := Lib.hid (MM.out.set_ 2 (by simp) (.int .i64 (wrap64 (1 - wrap64 (2 * Y)))))
        go_wp2_with fail
        go_meet
        exact ⟨_, _, _, E5.out.more (by omega), M5.out⟩
      · have hp1 : (p == 0) = false := by rw [beq_eq_false_iff_ne]; exact hp
        clear hp
        obtain ⟨U, hU⟩ : ∃ U : Int, U = wrap64 (-v) := ⟨_, rfl⟩
        obtain ⟨V, hV⟩ : ∃ V : Int, V = wrap64 (f.lower - v) := ⟨_, rfl⟩
        go_wp2_with fail
        rw [← hU, ← hV]
        have E4 := Lib.hid (E.out.alloc (.cells #[.int .i64 u, .int .i64 v] 74))
        have rl := K.Rd.new (World.alloc wq (.cells #[.int .i64 u, .int .i64 v] 74)) #[.int .i64 U, .int .i64 V, .int .i64 1] 3 3 1 rfl
        rw [World.size_alloc] at rl
        refine (Cur.among _ lo g _ _ 3 [U, V, 1] (E4.out.cur.alloc _) (by omega) (by simp) rl (fun e => by have : wq.heap.size + 1 = g := Option.some.inj e; have := E.out.gro.size; omega)).mono ?_
        rintro e w6 ⟨y2, rfl, _, q6⟩
        replace q6 := K.Went.alloc _ q6
        replace MM := Lib.hid ((MM.out.alloc (.cells #[.int .i64 u, .int .i64 v] 74)).kept q6.2 (fun e => by injection e with e; omega))
        replace E := Lib.hid (E4.out.went q6)
        clear q6 rl E4
        try clear b0 b1 b2 bg
        try clear m0 m1 m2 mf0 mf1 mf2 mg
        obtain ⟨m0, m1, m2, mf0, mf1, mf2, mg⟩ := MM.out.c3
        have E5 := Lib.hid (E.out.set (p := ⟨b, 2, none⟩) hmb (.int .i64 y2))
        have M5 := Lib.hid (MM.out.set_ 2 (by simp) (.int .i64 y2))
        go_wp2_with fail
        go_meet
        exact ⟨_, _, _, E5.out.more (by omega), M5.out⟩
  obtain ⟨x1, x2, x3, E0, M0⟩ := hcut
  rename World => wq2
  clear E MM
  have E := Lib.hid E0
  have MM := Lib.hid M0
  clear E0 M0 hbb hk
  go_wp2_with fail
  refine (Cur.pick _ lo g _ 64 E.out.cur (by omega)).mono ?_
  rintro e w7 ⟨z, rfl, ⟨z0, z1⟩, q7⟩
  replace E := Lib.hid (E.out.went q7)
  replace MM := Lib.hid (MM.out.kept q7.2 (fun e => by injection e with e; omega))
  clear q7
  go_upto_block 0 with fail
  go_cut [] (fun wx => ∃ x1 x2 x3 : Int, Be w wx lo g (B + 40) A c f ∧ K.Own wx b [.int .i64 x1, .int .i64 x2, .int .i64 x3])
  case first =>
    by_cases z0c : z = 0
    · have t0 : (z == 0) = true := by rw [beq_iff_eq]; omega
      clear z0c z0 z1
      go_wp2_with fail
      refine (Cur.among _ lo g _ (some ⟨w7.heap.size, 0, none⟩) 3 [-1, 7, 8] (E.out.cur.alloc _) (by omega) (by decide) (K.Rd.new w7 #[.int .i64 (-1), .int .i64 (7), .int .i64 (8)] 3 3 1 rfl) (fun e => by have : w7.heap.size = g := Option.some.inj e; have := E.out.gro.size; omega)).mono ?_
      rintro e w8 ⟨y2, rfl, _, q8⟩
      replace q8 := K.Went.alloc _ q8
      replace E := Lib.hid (E.out.went q8)
      replace MM := Lib.hid (MM.out.kept q8.2 (fun e => by injection e with e; omega))
      clear q8
      obtain ⟨m0, m1, m2, mf0, mf1, mf2, mg⟩ := MM.out.c3
      have E5 := Lib.hid (E.out.set (p := ⟨b, 0, none⟩) hmb (.int .i64 y2))
      have M5 := Lib.hid (MM.out.set_ 0 (by simp) (.int .i64 y2))
      go_wp2_with fail
      go_meet
      exact ⟨_, _, _, E5.out.more (by omega), M5.out⟩
    have t0 : (z == 0) = false := by rw [beq_eq_false_iff_ne]; omega
    by_cases z1c : z = 1
    · have t1 : (z == 1) = true := by rw [beq_iff_eq]; omega
      clear z1c z0 z1
      go_wp2_with fail
      refine (Cur.among _ lo g _ (some ⟨w7.heap.size, 0, none⟩) 3 [0, 6, -6] (E.out.cur.alloc _) (by omega) (by decide) (K.Rd.new w7 #[.int .i64 (0), .int .i64 (6), .int .i64 (-6)] 3 3 1 rfl) (fun e => by have : w7.heap.size = g := Option.some.inj e; have := E.out.gro.size; omega)).mono ?_
      rintro e w8 ⟨y2, rfl, _, q8⟩
      replace q8 := K.Went.alloc _ q8
      replace E := Lib.hid (E.out.went q8)
      replace MM := Lib.hid (MM.out.kept q8.2 (fun e => by injection e with e; omega))
      clear q8
      obtain ⟨m0, m1, m2, mf0, mf1, mf2, mg⟩ := MM.out.c3
      have E5 := Lib.hid (E.out.set (p := ⟨b, 2, none⟩) hmb (.int .i64 y2))
      have M5 := Lib.hid (MM.out.set_ 2 (by simp) (.int .i64 y2))
      go_wp2_with fail
      go_meet
      exact ⟨_, _, _, E5.out.more (by omega), M5.out⟩
    have t1 : (z == 1) = false := by rw [beq_eq_false_iff_ne]; omega
    by_cases z2c : z = 2
    · have t2 : (z == 2) = true := by rw [beq_iff_eq]; omega
      clear z2c z0 z1
      go_wp2_with fail
      refine (Cur.among _ lo g _ (some ⟨w7.heap.size, 0, none⟩) 2 [-1, 2] (E.out.cur.alloc _) (by omega) (by decide) (K.Rd.new w7 #[.int .i64 (-1), .int .i64 (2)] 3 2 1 rfl) (fun e => by have : w7.heap.size = g := Option.some.inj e; have := E.out.gro.size; omega)).mono ?_
      rintro e w8 ⟨y2, rfl, _, q8⟩
      replace q8 := K.Went.alloc _ q8
      replace E := Lib.hid (E.out.went q8)
      replace MM := Lib.hid (MM.out.kept q8.2 (fun e => by injection e with e; omega))
      clear q8
      obtain ⟨m0, m1, m2, mf0, mf1, mf2, mg⟩ := MM.out.c3
      have E5 := Lib.hid (E.out.set (p := ⟨b, 1, none⟩) hmb (.int .i64 y2))
      have M5 := Lib.hid (MM.out.set_ 1 (by simp) (.int .i64 y2))
      go_wp2_with fail
      go_meet
      exact ⟨_, _, _, E5.out.more (by omega), M5.out⟩
    have t2 : (z == 2) = false := by rw [beq_eq_false_iff_ne]; omega
    clear z0 z1
    go_wp2_with fail
    go_meet
    exact ⟨_, _, _, E.out.more (by omega), MM.out⟩
  obtain ⟨x1, x2, x3, E0, M0⟩ := hcut
  rename World => wq3
  clear E MM
  have E := Lib.hid E0
  have MM := Lib.hid M0
  clear E0 M0
  obtain ⟨m0, m1, m2, mf0, mf1, mf2, mg⟩ := MM.out.c3
  obtain ⟨r0, r1, r2, f0, f1, f2, rg⟩ := E.out.res.c3
  have hfin := Lib.hid (E.out.fin (B0 := B) (n := 40) (by omega) (.int .i64 x1) (.int .i64 x2) (.int .i64 x3))
  go_wp2_with fail
  exact bodyPost_ret (v := .agg #[.int .i64 x1, .int .i64 x2, .int .i64 x3]) (by simp [results, Try.results112, go_sem, *]) rfl ⟨⟨x1, x2, x3⟩, rfl, hfin.out⟩
end Go.Proofs.Ythlkdaogmcjlbaa.MoveD
