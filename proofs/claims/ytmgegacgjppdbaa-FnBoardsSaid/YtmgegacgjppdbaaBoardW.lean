/-
  Walks: carries and borrows of the reference (printed by gen_bops.py).
-/
import Derived.Test.YtmgegacgjppdbaaBoardV
import Derived.Deep.DeepCutAuto
import Derived.Deep.RegionHeld3
import Derived.BigRegion
set_option linter.unusedVariables false
namespace Go.Proofs.Ytmgegacgjppdbaa.BoardO
open Go.RowKit
set_option maxHeartbeats 2000000 in
theorem s_carry (A : Option Addr) (c : Nat) (l : List Int) (B : Option Addr) (d : Nat) (k : List Int) (line : Bool) (a : Int) (w : World) (hl : l.length ≤ 1048576) (hk : k.length ≤ 1048576) (ha : K.Rd w 1 A l.length (l.map (Value.int .i64))) (hb : K.Rd w 1 B k.length (k.map (Value.int .i64))) :
    Calls Try.prog 39 #[.agg #[.slice A l.length c, .slice B k.length d], .bool line, .int .i64 a] w (BoardH.RetBoardB w (M.carryB l k line a).1.1 (M.carryB l k line a).1.2 (M.carryB l k line a).2) := by
  obtain ⟨o, ho⟩ : ∃ o : Obj, o = .cells #[.slice A l.length c, .slice B k.length d] 27 := ⟨_, rfl⟩
  obtain ⟨o2, ho2⟩ : ∃ o : Obj, o = .cells #[.slice none 0 0, .slice none 0 0] 27 := ⟨_, rfl⟩
  have r := (ha.alloc o).alloc o2
  have t := (hb.alloc o).alloc o2
  have x : K.Box ((w.alloc o).alloc o2) w.heap.size [.slice A l.length c, .slice B k.length d] := by rw [ho]; exact (K.Box.new w #[.slice A l.length c, .slice B k.length d] 27).alloc _
  have z : K.Own ((w.alloc o).alloc o2) (w.heap.size + 1) [.slice none 0 0, .slice none 0 0] := by have h := K.Own.new (w.alloc o) #[.slice none 0 0, .slice none 0 0] 27; rw [World.size_alloc] at h; rw [ho2]; exact h
  have bb : Below w.heap.size w ((w.alloc o).alloc o2) := by (repeat (first | exact Below.refl _ _ | assumption | (refine K.below_drewN ?_ _) | (refine Below.drew ?_) | (refine Below.alloc ?_ (by first | (simp; done) | (simp; omega) | omega) _) | (refine Below.setCell ?_ (by first | (simp; done) | (simp; omega) | omega) _)))
  subst ho ho2
  obtain ⟨R, hR⟩ : ∃ R, R = M.carryB l k line a := ⟨_, rfl⟩
  rw [← hR]
  have HR0 := Lib.hid hR
  clear hR
  have HS := Lib.hid (s_place A c l B d k line a _ hl hk r t)
  generalize hpl : (M.bOk l k && M.inR a 0 ((l.length : Int) - 1 - (if line = true then 0 else 1))) = pl at HS
  cases pl with
  | false =>
    have hR : R = (([], []), false) := by
      rw [HR0.out]; unfold M.carryB; split
      · rename_i h; unfold M.changedB; rw [if_neg]; rintro ⟨h1, h2, h3, _⟩; rw [h, Bool.true_and, M.inR_niff] at hpl; cases line <;> simp at hpl h3 <;> omega
      · rfl
    clear hpl HR0
    subst hR
    go_enter Try.func39, Try.ntmps39
    have p0 := x.c2
    have pg := x.1
    go_wp2_with fail
    refine HS.out.mono ?_
    rintro e w1 ⟨rfl, b1⟩
    clear p0 pg
    replace bb := bb.trans (b1.mono bb.size)
    obtain ⟨z1, z2, z3, z4, z5⟩ := (z.below b1).c2
    clear z b1 x r t
    go_wp2_with fail
    exact bodyPost_ret (v := .tuple #[.agg #[.slice none 0 0, .slice none 0 0], .bool false]) (by simp [results, Try.results39, go_sem, *]) rfl ⟨none, 0, none, 0, rfl, K.Row.nil _ _ _ _, K.Row.nil _ _ _ _, fun g h => by simp [K.blk] at h, by (repeat (first | exact Below.refl _ _ | assumption | (refine K.below_drewN ?_ _) | (refine Below.drew ?_) | (refine Below.alloc ?_ (by first | (simp; done) | (simp; omega) | omega) _) | (refine Below.setCell ?_ (by first | (simp; done) | (simp; omega) | omega) _)))⟩
  | true =>
    rw [Bool.and_eq_true, M.inR_iff] at hpl
    obtain ⟨hok, ha0, ha1⟩ := hpl
    obtain ⟨⟨hl1, hl6⟩, hkl, hlx, hkx⟩ := (M.bOk_iff l k).1 hok
    obtain ⟨j, rfl⟩ := Int.eq_ofNat_of_zero_le ha0
    have hjk : j < k.length := by split at ha1 <;> omega
    have hlx2 : ∀ x ∈ l, -1000 ≤ x ∧ x ≤ 1000 := fun x hx => by have := hlx x hx; omega
    have hkx2 : ∀ x ∈ k, -1000 ≤ x ∧ x ≤ 1000 := fun x hx => by have := hkx x hx; omega
    have hk6 : k.length ≤ 6 := by omega
    cases line with
    | true =>
      have hj : j < l.length := by simp at ha1; omega
      have HM := Lib.hid (fun w h h2 => s_move_line A c l B d k j 1 w hl6 hk6 hj hjk hlx2 hkx2 (by omega) h h2)
      obtain ⟨L, hL⟩ : ∃ L, L = l.set j (l[j] - 5 * 1) := ⟨_, rfl⟩
      obtain ⟨Q, hQ⟩ : ∃ Q, Q = k.set j (k[j] + 1) := ⟨_, rfl⟩
      rw [← hL, ← hQ] at HM
      have hLn : L.length = l.length := by rw [hL, List.length_set]
      have hQn : Q.length = k.length := by rw [hQ, List.length_set]
      have HR := Lib.hid (show R = if M.bOk L Q = true then ((L, Q), true) else (([], []), false) by
        have hj9 : j < l.length := by omega
        have e1 : M.chgB l k true j (-5) (1) = (L, Q) := by rw [hL, hQ]; simp only [M.chgB, if_true, List.getD_eq_getElem?_getD, List.getElem?_eq_getElem hj, List.getElem?_eq_getElem hjk, Option.getD_some]; congr 2
        have e2 : ((j : Nat) : Int).toNat = j := rfl
        have e3 : M.takenB true = 5 := rfl
        rw [HR0.out]; unfold M.carryB; rw [if_pos hok, e3]; unfold M.changedB; rw [e2]; rw [e1]; by_cases hh : M.bOk L Q = true <;> simp [hh] <;> omega)
      have HG := Lib.hid (fun X c1 Y c2 w h h2 => BoardF.s_good X c1 L Y c2 Q w (by omega) (by omega) h h2)
      generalize M.bOk L Q = bo at HR HG
      clear HR0 hok hlx hkx hlx2 hkx2 hkl hL hQ hLn hQn
      go_enter Try.func39, Try.ntmps39
      have p0 := x.c2
      have pg := x.1
      go_wp2_with fail
      refine HS.out.mono ?_
      rintro e w1 ⟨rfl, b1⟩
      clear p0 pg
      replace x := x.below b1
      replace z := z.below b1
      replace r := r.below b1
      replace t := t.below b1
      replace bb := bb.trans (b1.mono bb.size)
      clear b1
      have p0 := x.c2
      have pg := x.1
      go_wp2_with fail
      refine (HM.out _ r t).mono ?_
      rintro e w2 ⟨X, c1, Y, c2, rfl, row, row2, ap, b2⟩
      have hz9 := z.1.1
      have hW0 := bb.size
      replace z := z.below b2
      replace bb := bb.trans (b2.mono bb.size)
      obtain ⟨o, ho⟩ : ∃ o : Obj, o = .cells #[.slice X L.length c1, .slice Y Q.length c2] 27 := ⟨_, rfl⟩
      have own : K.Own (w2.alloc o) w2.heap.size [.slice X L.length c1, .slice Y Q.length c2] := by rw [ho]; exact K.Own.new _ _ _
      have hlX := row.lt
      have hlY := row2.lt
      have rx := (row.more (lo' := w.heap.size) hW0).alloc o
      have ry := (row2.more (lo' := w.heap.size) hW0).alloc o
      replace z := z.alloc o
      replace bb := bb.alloc bb.size o
      subst ho
      clear row row2 b2 x r t p0 pg
      obtain ⟨w11, w12, w13, w14, w15⟩ := own.c2
      go_wp2_with fail
      refine (HG.out X c1 Y c2 _ rx.rd ry.rd).mono ?_
      rintro e w3 ⟨rfl, b3⟩
      clear w11 w12 w13 w14 w15
      obtain ⟨w11, w12, w13, w14, w15⟩ := (own.below b3).c2
      obtain ⟨z1, z2, z3, z4, z5⟩ := (z.below b3).c2
      replace rx := rx.below b3
      replace ry := ry.below b3
      replace bb := bb.trans (b3.mono bb.size)
      have hz0 := bb.size
      clear own z b3
      cases bo with
      | false =>
        have hR := HR.out
        rw [if_neg (by simp)] at hR
        subst hR
        go_wp2_with fail
        exact bodyPost_ret (v := .tuple #[.agg #[.slice none 0 0, .slice none 0 0], .bool false]) (by simp [results, Try.results39, go_sem, *]) rfl ⟨none, 0, none, 0, rfl, K.Row.nil _ _ _ _, K.Row.nil _ _ _ _, fun g h => by simp [K.blk] at h, by (repeat (first | exact Below.refl _ _ | assumption | (refine K.below_drewN ?_ _) | (refine Below.drew ?_) | (refine Below.alloc ?_ (by first | (simp; done) | (simp; omega) | omega) _) | (refine Below.setCell ?_ (by first | (simp; done) | (simp; omega) | omega) _)))⟩
      | true =>
        have hR := HR.out
        rw [if_pos rfl] at hR
        subst hR
        go_wp2_with fail
        exact bodyPost_ret (v := .tuple #[.agg #[.slice X L.length c1, .slice Y Q.length c2], .bool true]) (by simp [results, Try.results39, go_sem, *]) rfl ⟨X, c1, Y, c2, rfl, (rx.setNe (fun q hq => by have := hlX q hq; simp; omega) _).setNe (fun q hq => by have := hlX q hq; simp; omega) _, (ry.setNe (fun q hq => by have := hlY q hq; simp; omega) _).setNe (fun q hq => by have := hlY q hq; simp; omega) _, ap, by (repeat (first | exact Below.refl _ _ | assumption | (refine K.below_drewN ?_ _) | (refine Below.drew ?_) | (refine Below.alloc ?_ (by first | (simp; done) | (simp; omega) | omega) _) | (refine Below.setCell ?_ (by first | (simp; done) | (simp; omega) | omega) _)))⟩
    | false =>
      have hj : j + 1 < l.length := by simp at ha1; omega
      have HM := Lib.hid (fun w h h2 => s_move_space A c l B d k j 1 w hl6 hk6 hj hjk hlx2 hkx2 (by omega) h h2)
      obtain ⟨L, hL⟩ : ∃ L, L = l.set (j + 1) (l[j + 1] + 1) := ⟨_, rfl⟩
      obtain ⟨Q, hQ⟩ : ∃ Q, Q = k.set j (k[j] - 2 * 1) := ⟨_, rfl⟩
      rw [← hL, ← hQ] at HM
      have hLn : L.length = l.length := by rw [hL, List.length_set]
      have hQn : Q.length = k.length := by rw [hQ, List.length_set]
      have HR := Lib.hid (show R = if M.bOk L Q = true then ((L, Q), true) else (([], []), false) by
        have hj9 : j < l.length := by omega
        have e1 : M.chgB l k false j (-2) (1) = (L, Q) := by rw [hL, hQ]; simp only [M.chgB, Bool.false_eq_true, if_false, List.getD_eq_getElem?_getD, List.getElem?_eq_getElem hj, List.getElem?_eq_getElem hjk, Option.getD_some]; congr 2
        have e2 : ((j : Nat) : Int).toNat = j := rfl
        have e3 : M.takenB false = 2 := rfl
        rw [HR0.out]; unfold M.carryB; rw [if_pos hok, e3]; unfold M.changedB; rw [e2]; rw [e1]; by_cases hh : M.bOk L Q = true <;> simp [hh] <;> omega)
      have HG := Lib.hid (fun X c1 Y c2 w h h2 => BoardF.s_good X c1 L Y c2 Q w (by omega) (by omega) h h2)
      generalize M.bOk L Q = bo at HR HG
      clear HR0 hok hlx hkx hlx2 hkx2 hkl hL hQ hLn hQn
      go_enter Try.func39, Try.ntmps39
      have p0 := x.c2
      have pg := x.1
      go_wp2_with fail
      refine HS.out.mono ?_
      rintro e w1 ⟨rfl, b1⟩
      clear p0 pg
      replace x := x.below b1
      replace z := z.below b1
      replace r := r.below b1
      replace t := t.below b1
      replace bb := bb.trans (b1.mono bb.size)
      clear b1
      have p0 := x.c2
      have pg := x.1
      go_wp2_with fail
      refine (HM.out _ r t).mono ?_
      rintro e w2 ⟨X, c1, Y, c2, rfl, row, row2, ap, b2⟩
      have hz9 := z.1.1
      have hW0 := bb.size
      replace z := z.below b2
      replace bb := bb.trans (b2.mono bb.size)
      obtain ⟨o, ho⟩ : ∃ o : Obj, o = .cells #[.slice X L.length c1, .slice Y Q.length c2] 27 := ⟨_, rfl⟩
      have own : K.Own (w2.alloc o) w2.heap.size [.slice X L.length c1, .slice Y Q.length c2] := by rw [ho]; exact K.Own.new _ _ _
      have hlX := row.lt
      have hlY := row2.lt
      have rx := (row.more (lo' := w.heap.size) hW0).alloc o
      have ry := (row2.more (lo' := w.heap.size) hW0).alloc o
      replace z := z.alloc o
      replace bb := bb.alloc bb.size o
      subst ho
      clear row row2 b2 x r t p0 pg
      obtain ⟨w11, w12, w13, w14, w15⟩ := own.c2
      go_wp2_with fail
      refine (HG.out X c1 Y c2 _ rx.rd ry.rd).mono ?_
      rintro e w3 ⟨rfl, b3⟩
      clear w11 w12 w13 w14 w15
      obtain ⟨w11, w12, w13, w14, w15⟩ := (own.below b3).c2
      obtain ⟨z1, z2, z3, z4, z5⟩ := (z.below b3).c2
      replace rx := rx.below b3
      replace ry := ry.below b3
      replace bb := bb.trans (b3.mono bb.size)
      have hz0 := bb.size
      clear own z b3
      cases bo with
      | false =>
        have hR := HR.out
        rw [if_neg (by simp)] at hR
        subst hR
        go_wp2_with fail
        exact bodyPost_ret (v := .tuple #[.agg #[.slice none 0 0, .slice none 0 0], .bool false]) (by simp [results, Try.results39, go_sem, *]) rfl ⟨none, 0, none, 0, rfl, K.Row.nil _ _ _ _, K.Row.nil _ _ _ _, fun g h => by simp [K.blk] at h, by (repeat (first | exact Below.refl _ _ | assumption | (refine K.below_drewN ?_ _) | (refine Below.drew ?_) | (refine Below.alloc ?_ (by first | (simp; done) | (simp; omega) | omega) _) | (refine Below.setCell ?_ (by first | (simp; done) | (simp; omega) | omega) _)))⟩
      | true =>
        have hR := HR.out
        rw [if_pos rfl] at hR
        subst hR
        go_wp2_with fail
        exact bodyPost_ret (v := .tuple #[.agg #[.slice X L.length c1, .slice Y Q.length c2], .bool true]) (by simp [results, Try.results39, go_sem, *]) rfl ⟨X, c1, Y, c2, rfl, (rx.setNe (fun q hq => by have := hlX q hq; simp; omega) _).setNe (fun q hq => by have := hlX q hq; simp; omega) _, (ry.setNe (fun q hq => by have := hlY q hq; simp; omega) _).setNe (fun q hq => by have := hlY q hq; simp; omega) _, ap, by (repeat (first | exact Below.refl _ _ | assumption | (refine K.below_drewN ?_ _) | (refine Below.drew ?_) | (refine Below.alloc ?_ (by first | (simp; done) | (simp; omega) | omega) _) | (refine Below.setCell ?_ (by first | (simp; done) | (simp; omega) | omega) _)))⟩
set_option maxHeartbeats 2000000 in
theorem s_borrow (A : Option Addr) (c : Nat) (l : List Int) (B : Option Addr) (d : Nat) (k : List Int) (line : Bool) (a : Int) (w : World) (hl : l.length ≤ 1048576) (hk : k.length ≤ 1048576) (ha : K.Rd w 1 A l.length (l.map (Value.int .i64))) (hb : K.Rd w 1 B k.length (k.map (Value.int .i64))) :
    Calls Try.prog 37 #[.agg #[.slice A l.length c, .slice B k.length d], .bool line, .int .i64 a] w (BoardH.RetBoardB w (M.borrowB l k line a).1.1 (M.borrowB l k line a).1.2 (M.borrowB l k line a).2) := by
  obtain ⟨o, ho⟩ : ∃ o : Obj, o = .cells #[.slice A l.length c, .slice B k.length d] 27 := ⟨_, rfl⟩
  obtain ⟨o2, ho2⟩ : ∃ o : Obj, o = .cells #[.slice none 0 0, .slice none 0 0] 27 := ⟨_, rfl⟩
  have r := (ha.alloc o).alloc o2
  have t := (hb.alloc o).alloc o2
  have x : K.Box ((w.alloc o).alloc o2) w.heap.size [.slice A l.length c, .slice B k.length d] := by rw [ho]; exact (K.Box.new w #[.slice A l.length c, .slice B k.length d] 27).alloc _
  have z : K.Own ((w.alloc o).alloc o2) (w.heap.size + 1) [.slice none 0 0, .slice none 0 0] := by have h := K.Own.new (w.alloc o) #[.slice none 0 0, .slice none 0 0] 27; rw [World.size_alloc] at h; rw [ho2]; exact h
  have bb : Below w.heap.size w ((w.alloc o).alloc o2) := by (repeat (first | exact Below.refl _ _ | assumption | (refine K.below_drewN ?_ _) | (refine Below.drew ?_) | (refine Below.alloc ?_ (by first | (simp; done) | (simp; omega) | omega) _) | (refine Below.setCell ?_ (by first | (simp; done) | (simp; omega) | omega) _)))
  subst ho ho2
  obtain ⟨R, hR⟩ : ∃ R, R = M.borrowB l k line a := ⟨_, rfl⟩
  rw [← hR]
  have HR0 := Lib.hid hR
  clear hR
  have HS := Lib.hid (s_place A c l B d k line a _ hl hk r t)
  generalize hpl : (M.bOk l k && M.inR a 0 ((l.length : Int) - 1 - (if line = true then 0 else 1))) = pl at HS
  cases pl with
  | false =>
    have hR : R = (([], []), false) := by
      rw [HR0.out]; unfold M.borrowB; split
      · rename_i h; unfold M.changedB; rw [if_neg]; rintro ⟨h1, h2, h3, _⟩; rw [h, Bool.true_and, M.inR_niff] at hpl; cases line <;> simp at hpl h3 <;> omega
      · rfl
    clear hpl HR0
    subst hR
    go_enter Try.func37, Try.ntmps37
    have p0 := x.c2
    have pg := x.1
    go_wp2_with fail
    refine HS.out.mono ?_
    rintro e w1 ⟨rfl, b1⟩
    clear p0 pg
    replace bb := bb.trans (b1.mono bb.size)
    obtain ⟨z1, z2, z3, z4, z5⟩ := (z.below b1).c2
    clear z b1 x r t
    go_wp2_with fail
    exact bodyPost_ret (v := .tuple #[.agg #[.slice none 0 0, .slice none 0 0], .bool false]) (by simp [results, Try.results37, go_sem, *]) rfl ⟨none, 0, none, 0, rfl, K.Row.nil _ _ _ _, K.Row.nil _ _ _ _, fun g h => by simp [K.blk] at h, by (repeat (first | exact Below.refl _ _ | assumption | (refine K.below_drewN ?_ _) | (refine Below.drew ?_) | (refine Below.alloc ?_ (by first | (simp; done) | (simp; omega) | omega) _) | (refine Below.setCell ?_ (by first | (simp; done) | (simp; omega) | omega) _)))⟩
  | true =>
    rw [Bool.and_eq_true, M.inR_iff] at hpl
    obtain ⟨hok, ha0, ha1⟩ := hpl
    obtain ⟨⟨hl1, hl6⟩, hkl, hlx, hkx⟩ := (M.bOk_iff l k).1 hok
    obtain ⟨j, rfl⟩ := Int.eq_ofNat_of_zero_le ha0
    have hjk : j < k.length := by split at ha1 <;> omega
    have hlx2 : ∀ x ∈ l, -1000 ≤ x ∧ x ≤ 1000 := fun x hx => by have := hlx x hx; omega
    have hkx2 : ∀ x ∈ k, -1000 ≤ x ∧ x ≤ 1000 := fun x hx => by have := hkx x hx; omega
    have hk6 : k.length ≤ 6 := by omega
    cases line with
    | true =>
      have hj : j < l.length := by simp at ha1; omega
      have HM := Lib.hid (fun w h h2 => s_move_line A c l B d k j (-1) w hl6 hk6 hj hjk hlx2 hkx2 (by omega) h h2)
      obtain ⟨L, hL⟩ : ∃ L, L = l.set j (l[j] - 5 * (-1)) := ⟨_, rfl⟩
      obtain ⟨Q, hQ⟩ : ∃ Q, Q = k.set j (k[j] + (-1)) := ⟨_, rfl⟩
      rw [← hL, ← hQ] at HM
      have hLn : L.length = l.length := by rw [hL, List.length_set]
      have hQn : Q.length = k.length := by rw [hQ, List.length_set]
      have HR := Lib.hid (show R = if M.bOk L Q = true then ((L, Q), true) else (([], []), false) by
        have hj9 : j < l.length := by omega
        have e1 : M.chgB l k true j (5) (-1) = (L, Q) := by rw [hL, hQ]; simp only [M.chgB, if_true, List.getD_eq_getElem?_getD, List.getElem?_eq_getElem hj, List.getElem?_eq_getElem hjk, Option.getD_some]; congr 2
        have e2 : ((j : Nat) : Int).toNat = j := rfl
        have e3 : M.takenB true = 5 := rfl
        rw [HR0.out]; unfold M.borrowB; rw [if_pos hok, e3]; unfold M.changedB; rw [e2]; rw [e1]; by_cases hh : M.bOk L Q = true <;> simp [hh] <;> omega)
      have HG := Lib.hid (fun X c1 Y c2 w h h2 => BoardF.s_good X c1 L Y c2 Q w (by omega) (by omega) h h2)
      generalize M.bOk L Q = bo at HR HG
      clear HR0 hok hlx hkx hlx2 hkx2 hkl hL hQ hLn hQn
      go_enter Try.func37, Try.ntmps37
      have p0 := x.c2
      have pg := x.1
      go_wp2_with fail
      refine HS.out.mono ?_
      rintro e w1 ⟨rfl, b1⟩
      clear p0 pg
      replace x := x.below b1
      replace z := z.below b1
      replace r := r.below b1
      replace t := t.below b1
      replace bb := bb.trans (b1.mono bb.size)
      clear b1
      have p0 := x.c2
      have pg := x.1
      go_wp2_with fail
      refine (HM.out _ r t).mono ?_
      rintro e w2 ⟨X, c1, Y, c2, rfl, row, row2, ap, b2⟩
      have hz9 := z.1.1
      have hW0 := bb.size
      replace z := z.below b2
      replace bb := bb.trans (b2.mono bb.size)
      obtain ⟨o, ho⟩ : ∃ o : Obj, o = .cells #[.slice X L.length c1, .slice Y Q.length c2] 27 := ⟨_, rfl⟩
      have own : K.Own (w2.alloc o) w2.heap.size [.slice X L.length c1, .slice Y Q.length c2] := by rw [ho]; exact K.Own.new _ _ _
      have hlX := row.lt
      have hlY := row2.lt
      have rx := (row.more (lo' := w.heap.size) hW0).alloc o
      have ry := (row2.more (lo' := w.heap.size) hW0).alloc o
      replace z := z.alloc o
      replace bb := bb.alloc bb.size o
      subst ho
      clear row row2 b2 x r t p0 pg
      obtain ⟨w11, w12, w13, w14, w15⟩ := own.c2
      go_wp2_with fail
      refine (HG.out X c1 Y c2 _ rx.rd ry.rd).mono ?_
      rintro e w3 ⟨rfl, b3⟩
      clear w11 w12 w13 w14 w15
      obtain ⟨w11, w12, w13, w14, w15⟩ := (own.below b3).c2
      obtain ⟨z1, z2, z3, z4, z5⟩ := (z.below b3).c2
      replace rx := rx.below b3
      replace ry := ry.below b3
      replace bb := bb.trans (b3.mono bb.size)
      have hz0 := bb.size
      clear own z b3
      cases bo with
      | false =>
        have hR := HR.out
        rw [if_neg (by simp)] at hR
        subst hR
        go_wp2_with fail
        exact bodyPost_ret (v := .tuple #[.agg #[.slice none 0 0, .slice none 0 0], .bool false]) (by simp [results, Try.results37, go_sem, *]) rfl ⟨none, 0, none, 0, rfl, K.Row.nil _ _ _ _, K.Row.nil _ _ _ _, fun g h => by simp [K.blk] at h, by (repeat (first | exact Below.refl _ _ | assumption | (refine K.below_drewN ?_ _) | (refine Below.drew ?_) | (refine Below.alloc ?_ (by first | (simp; done) | (simp; omega) | omega) _) | (refine Below.setCell ?_ (by first | (simp; done) | (simp; omega) | omega) _)))⟩
      | true =>
        have hR := HR.out
        rw [if_pos rfl] at hR
        subst hR
        go_wp2_with fail
        exact bodyPost_ret (v := .tuple #[.agg #[.slice X L.length c1, .slice Y Q.length c2], .bool true]) (by simp [results, Try.results37, go_sem, *]) rfl ⟨X, c1, Y, c2, rfl, (rx.setNe (fun q hq => by have := hlX q hq; simp; omega) _).setNe (fun q hq => by have := hlX q hq; simp; omega) _, (ry.setNe (fun q hq => by have := hlY q hq; simp; omega) _).setNe (fun q hq => by have := hlY q hq; simp; omega) _, ap, by (repeat (first | exact Below.refl _ _ | assumption | (refine K.below_drewN ?_ _) | (refine Below.drew ?_) | (refine Below.alloc ?_ (by first | (simp; done) | (simp; omega) | omega) _) | (refine Below.setCell ?_ (by first | (simp; done) | (simp; omega) | omega) _)))⟩
    | false =>
      have hj : j + 1 < l.length := by simp at ha1; omega
      have HM := Lib.hid (fun w h h2 => s_move_space A c l B d k j (-1) w hl6 hk6 hj hjk hlx2 hkx2 (by omega) h h2)
      obtain ⟨L, hL⟩ : ∃ L, L = l.set (j + 1) (l[j + 1] + (-1)) := ⟨_, rfl⟩
      obtain ⟨Q, hQ⟩ : ∃ Q, Q = k.set j (k[j] - 2 * (-1)) := ⟨_, rfl⟩
      rw [← hL, ← hQ] at HM
      have hLn : L.length = l.length := by rw [hL, List.length_set]
      have hQn : Q.length = k.length := by rw [hQ, List.length_set]
      have HR := Lib.hid (show R = if M.bOk L Q = true then ((L, Q), true) else (([], []), false) by
        have hj9 : j < l.length := by omega
        have e1 : M.chgB l k false j (2) (-1) = (L, Q) := by rw [hL, hQ]; simp only [M.chgB, Bool.false_eq_true, if_false, List.getD_eq_getElem?_getD, List.getElem?_eq_getElem hj, List.getElem?_eq_getElem hjk, Option.getD_some]; congr 2
        have e2 : ((j : Nat) : Int).toNat = j := rfl
        have e3 : M.takenB false = 2 := rfl
        rw [HR0.out]; unfold M.borrowB; rw [if_pos hok, e3]; unfold M.changedB; rw [e2]; rw [e1]; by_cases hh : M.bOk L Q = true <;> simp [hh] <;> omega)
      have HG := Lib.hid (fun X c1 Y c2 w h h2 => BoardF.s_good X c1 L Y c2 Q w (by omega) (by omega) h h2)
      generalize M.bOk L Q = bo at HR HG
      clear HR0 hok hlx hkx hlx2 hkx2 hkl hL hQ hLn hQn
      go_enter Try.func37, Try.ntmps37
      have p0 := x.c2
      have pg := x.1
      go_wp2_with fail
      refine HS.out.mono ?_
      rintro e w1 ⟨rfl, b1⟩
      clear p0 pg
      replace x := x.below b1
      replace z := z.below b1
      replace r := r.below b1
      replace t := t.below b1
      replace bb := bb.trans (b1.mono bb.size)
      clear b1
      have p0 := x.c2
      have pg := x.1
      go_wp2_with fail
      refine (HM.out _ r t).mono ?_
      rintro e w2 ⟨X, c1, Y, c2, rfl, row, row2, ap, b2⟩
      have hz9 := z.1.1
      have hW0 := bb.size
      replace z := z.below b2
      replace bb := bb.trans (b2.mono bb.size)
      obtain ⟨o, ho⟩ : ∃ o : Obj, o = .cells #[.slice X L.length c1, .slice Y Q.length c2] 27 := ⟨_, rfl⟩
      have own : K.Own (w2.alloc o) w2.heap.size [.slice X L.length c1, .slice Y Q.length c2] := by rw [ho]; exact K.Own.new _ _ _
      have hlX := row.lt
      have hlY := row2.lt
      have rx := (row.more (lo' := w.heap.size) hW0).alloc o
      have ry := (row2.more (lo' := w.heap.size) hW0).alloc o
      replace z := z.alloc o
      replace bb := bb.alloc bb.size o
      subst ho
      clear row row2 b2 x r t p0 pg
      obtain ⟨w11, w12, w13, w14, w15⟩ := own.c2
      go_wp2_with fail
      refine (HG.out X c1 Y c2 _ rx.rd ry.rd).mono ?_
      rintro e w3 ⟨rfl, b3⟩
      clear w11 w12 w13 w14 w15
      obtain ⟨w11, w12, w13, w14, w15⟩ := (own.below b3).c2
      obtain ⟨z1, z2, z3, z4, z5⟩ := (z.below b3).c2
      replace rx := rx.below b3
      replace ry := ry.below b3
      replace bb := bb.trans (b3.mono bb.size)
      have hz0 := bb.size
      clear own z b3
      cases bo with
      | false =>
        have hR := HR.out
        rw [if_neg (by simp)] at hR
        subst hR
        go_wp2_with fail
        exact bodyPost_ret (v := .tuple #[.agg #[.slice none 0 0, .slice none 0 0], .bool false]) (by simp [results, Try.results37, go_sem, *]) rfl ⟨none, 0, none, 0, rfl, K.Row.nil _ _ _ _, K.Row.nil _ _ _ _, fun g h => by simp [K.blk] at h, by (repeat (first | exact Below.refl _ _ | assumption | (refine K.below_drewN ?_ _) | (refine Below.drew ?_) | (refine Below.alloc ?_ (by first | (simp; done) | (simp; omega) | omega) _) | (refine Below.setCell ?_ (by first | (simp; done) | (simp; omega) | omega) _)))⟩
      | true =>
        have hR := HR.out
        rw [if_pos rfl] at hR
        subst hR
        go_wp2_with fail
        exact bodyPost_ret (v := .tuple #[.agg #[.slice X L.length c1, .slice Y Q.length c2], .bool true]) (by simp [results, Try.results37, go_sem, *]) rfl ⟨X, c1, Y, c2, rfl, (rx.setNe (fun q hq => by have := hlX q hq; simp; omega) _).setNe (fun q hq => by have := hlX q hq; simp; omega) _, (ry.setNe (fun q hq => by have := hlY q hq; simp; omega) _).setNe (fun q hq => by have := hlY q hq; simp; omega) _, ap, by (repeat (first | exact Below.refl _ _ | assumption | (refine K.below_drewN ?_ _) | (refine Below.drew ?_) | (refine Below.alloc ?_ (by first | (simp; done) | (simp; omega) | omega) _) | (refine Below.setCell ?_ (by first | (simp; done) | (simp; omega) | omega) _)))⟩
end Go.Proofs.Ytmgegacgjppdbaa.BoardO
