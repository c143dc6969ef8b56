/-
  Walks: one board taken away from another (printed by gen_take.py).
-/
import Derived.Test.YtmgegacgjppdbaaBoardS
import Derived.Test.YtmgegacgjppdbaaBoardGM
import Derived.Deep.RegionHeld3
set_option linter.unusedVariables false
namespace Go.Proofs.Ytmgegacgjppdbaa.BoardT
open Go.RowKit
set_option maxRecDepth 100000 in
set_option maxHeartbeats 2000000 in
theorem i_take (A : Option Addr) (c : Nat) (l : List Int) (B : Option Addr) (d : Nat) (k : List Int) (A2 : Option Addr) (c2 : Nat) (l2 : List Int) (B2 : Option Addr) (d2 : Nat) (k2 : List Int) (w : World) (hl : l.length ≤ 1048576) (hk : k.length ≤ 1048576) (ha : K.Rd w 1 A l.length (l.map (Value.int .i64))) (hb : K.Rd w 1 B k.length (k.map (Value.int .i64))) (hl2 : l2.length ≤ 1048576) (hk2 : k2.length ≤ 1048576) (ha2 : K.Rd w 1 A2 l2.length (l2.map (Value.int .i64))) (hb2 : K.Rd w 1 B2 k2.length (k2.map (Value.int .i64))) :
    Calls Try.prog 36 #[.agg #[.slice A l.length c, .slice B k.length d], .agg #[.slice A2 l2.length c2, .slice B2 k2.length d2]] w (BoardH.RetBoardB w (M.awayB l k l2 k2).1.1 (M.awayB l k l2 k2).1.2 (M.awayB l k l2 k2).2) := by
  obtain ⟨o0, ho0⟩ : ∃ o : Obj, o = .cells #[.slice A l.length c, .slice B k.length d] 27 := ⟨_, rfl⟩
  obtain ⟨o1, ho1⟩ : ∃ o : Obj, o = .cells #[.slice A2 l2.length c2, .slice B2 k2.length d2] 27 := ⟨_, rfl⟩
  obtain ⟨o2, ho2⟩ : ∃ o : Obj, o = .cells #[.slice none 0 0, .slice none 0 0] 27 := ⟨_, rfl⟩
  have r := ((ha.alloc o0).alloc o1).alloc o2
  have t := ((hb.alloc o0).alloc o1).alloc o2
  have r2 := ((ha2.alloc o0).alloc o1).alloc o2
  have t2 := ((hb2.alloc o0).alloc o1).alloc o2
  have x : K.Box (((w.alloc o0).alloc o1).alloc o2) w.heap.size [.slice A l.length c, .slice B k.length d] := by have h := K.Box.new w #[.slice A l.length c, .slice B k.length d] 27; rw [ho0]; exact (h.alloc o1).alloc o2
  have y : K.Box (((w.alloc o0).alloc o1).alloc o2) (w.heap.size + 1) [.slice A2 l2.length c2, .slice B2 k2.length d2] := by have h := K.Box.new (w.alloc o0) #[.slice A2 l2.length c2, .slice B2 k2.length d2] 27; rw [World.size_alloc] at h; rw [ho1]; exact h.alloc o2
  have z : K.Own (((w.alloc o0).alloc o1).alloc o2) (w.heap.size + 1 + 1) [.slice none 0 0, .slice none 0 0] := by have h := K.Own.new ((w.alloc o0).alloc o1) #[.slice none 0 0, .slice none 0 0] 27; rw [World.size_alloc, World.size_alloc] at h; rw [ho2]; exact h
  have bb : Below w.heap.size w (((w.alloc o0).alloc o1).alloc o2) := by (repeat (first | exact Below.refl _ _ | assumption | (refine K.below_drewN ?_ _) | (refine Below.drew ?_) | (refine Below.alloc ?_ (by first | (simp; done) | (simp; omega) | omega) _) | (refine Below.setCell ?_ (by first | (simp; done) | (simp; omega) | omega) _)))
  subst ho0 ho1 ho2
  have HS := Lib.hid (fun w h h2 => BoardF.i_board A c l B d k w hl hk h h2)
  have HS2 := Lib.hid (fun w h h2 => BoardF.i_board A2 c2 l2 B2 d2 k2 w hl2 hk2 h h2)
  cases hok : M.bOk l k with
  | false =>
    rw [hok] at HS
    rw [M.awayB_no (by simp [hok])]
    clear hok
    go_enter Try.func36, Try.ntmps36
    have p0 := x.c2
    have pg := x.1
    have p1 := y.c2
    have ph := y.1
    go_wp2_with fail
    refine (HS.out _ r t).mono ?_
    rintro e w1 ⟨rfl, b1⟩
    clear p0 pg p1 ph
    replace r := r.below b1
    replace t := t.below b1
    replace r2 := r2.below b1
    replace t2 := t2.below b1
    replace x := x.below b1
    replace y := y.below b1
    replace z := z.below b1
    replace bb := bb.trans (b1.mono bb.size)
    clear b1
    obtain ⟨z1, z2, z3, z4, z5⟩ := z.c2
    clear z x y r t r2 t2
    go_wp2_with fail
    exact bodyPost_ret (v := .tuple #[.agg #[.slice none 0 0, .slice none 0 0], .bool false]) (by simp [results, Try.results36, go_sem, *]) rfl ⟨none, 0, none, 0, rfl, K.Row.nil _ _ _ _, K.Row.nil _ _ _ _, fun g h => by simp [K.blk] at h, by (repeat (first | exact Below.refl _ _ | assumption | (refine K.below_drewN ?_ _) | (refine Below.drew ?_) | (refine Below.alloc ?_ (by first | (simp; done) | (simp; omega) | omega) _) | (refine Below.setCell ?_ (by first | (simp; done) | (simp; omega) | omega) _)))⟩
  | true =>
    rw [hok] at HS
    cases hok2 : M.bOk l2 k2 with
    | false =>
      rw [hok2] at HS2
      rw [M.awayB_no (by simp [hok2])]
      clear hok hok2
      go_enter Try.func36, Try.ntmps36
      have p0 := x.c2
      have pg := x.1
      have p1 := y.c2
      have ph := y.1
      go_wp2_with fail
      refine (HS.out _ r t).mono ?_
      rintro e w1 ⟨rfl, b1⟩
      clear p0 pg p1 ph
      replace r := r.below b1
      replace t := t.below b1
      replace r2 := r2.below b1
      replace t2 := t2.below b1
      replace x := x.below b1
      replace y := y.below b1
      replace z := z.below b1
      replace bb := bb.trans (b1.mono bb.size)
      clear b1
      have p0 := x.c2
      have pg := x.1
      have p1 := y.c2
      have ph := y.1
      go_wp2_with fail
      refine (HS2.out _ r2 t2).mono ?_
      rintro e w2 ⟨rfl, b2⟩
      clear p0 pg p1 ph
      replace r := r.below b2
      replace t := t.below b2
      replace r2 := r2.below b2
      replace t2 := t2.below b2
      replace x := x.below b2
      replace y := y.below b2
      replace z := z.below b2
      replace bb := bb.trans (b2.mono bb.size)
      clear b2
      obtain ⟨z1, z2, z3, z4, z5⟩ := z.c2
      clear z x y r t r2 t2
      go_wp2_with fail
      exact bodyPost_ret (v := .tuple #[.agg #[.slice none 0 0, .slice none 0 0], .bool false]) (by simp [results, Try.results36, go_sem, *]) rfl ⟨none, 0, none, 0, rfl, K.Row.nil _ _ _ _, K.Row.nil _ _ _ _, fun g h => by simp [K.blk] at h, by (repeat (first | exact Below.refl _ _ | assumption | (refine K.below_drewN ?_ _) | (refine Below.drew ?_) | (refine Below.alloc ?_ (by first | (simp; done) | (simp; omega) | omega) _) | (refine Below.setCell ?_ (by first | (simp; done) | (simp; omega) | omega) _)))⟩
    | true =>
      rw [hok2] at HS2
      rw [M.awayB_yes hok hok2]
      have v1 := M.bVal_facts hok 0 (Nat.zero_le _)
      have v2 := M.bVal_facts hok2 0 (Nat.zero_le _)
      rw [List.drop_zero, List.drop_zero] at v1 v2
      have hl16 := ((M.bOk_iff l k).1 hok).1
      have HV := Lib.hid (fun w h h2 => BoardF.i_val A c l B d k w hok h h2)
      have HW := Lib.hid (fun w h h2 => BoardF.i_val A2 c2 l2 B2 d2 k2 w hok2 h h2)
      obtain ⟨a, hva⟩ : ∃ a, a = M.bVal l k := ⟨_, rfl⟩
      obtain ⟨b, hvb⟩ : ∃ b, b = M.bVal l2 k2 := ⟨_, rfl⟩
      rw [← hva] at v1 HV ⊢
      rw [← hvb] at v2 HW ⊢
      have HP := Lib.hid (fun w => BoardS.i_set l.length (a - b) w (by omega))
      generalize M.setB (l.length : Int) (a - b) = R at HP ⊢
      clear hok hok2 hva hvb hl16
      go_enter Try.func36, Try.ntmps36
      have p0 := x.c2
      have pg := x.1
      have p1 := y.c2
      have ph := y.1
      go_wp2_with fail
      refine (HS.out _ r t).mono ?_
      rintro e w1 ⟨rfl, b1⟩
      clear p0 pg p1 ph
      replace r := r.below b1
      replace t := t.below b1
      replace r2 := r2.below b1
      replace t2 := t2.below b1
      replace x := x.below b1
      replace y := y.below b1
      replace z := z.below b1
      replace bb := bb.trans (b1.mono bb.size)
      clear b1
      have p0 := x.c2
      have pg := x.1
      have p1 := y.c2
      have ph := y.1
      go_wp2_with fail
      refine (HS2.out _ r2 t2).mono ?_
      rintro e w2 ⟨rfl, b2⟩
      clear p0 pg p1 ph
      replace r := r.below b2
      replace t := t.below b2
      replace r2 := r2.below b2
      replace t2 := t2.below b2
      replace x := x.below b2
      replace y := y.below b2
      replace z := z.below b2
      replace bb := bb.trans (b2.mono bb.size)
      clear b2
      have sw : IntKind.i64.wrap (a - b) = a - b := IntWalk.i64_in _ (by omega)
      have p0 := x.c2
      have pg := x.1
      have p1 := y.c2
      have ph := y.1
      go_wp2_with fail
      have BB := Lib.hid bb
      clear bb
      go_region_held3 (fun w' => w'.cell? ⟨w.heap.size, 0, none⟩ = some (.slice A l.length c) ∧ w'.cell? ⟨w.heap.size, 1, none⟩ = some (.slice B k.length d) ∧ w'.cell? ⟨w.heap.size + 1, 0, none⟩ = some (.slice A2 l2.length c2) ∧ w'.cell? ⟨w.heap.size + 1, 1, none⟩ = some (.slice B2 k2.length d2))
        (((try dsimp only); refine ⟨(by (refine K.Box.at_ (vs := [.slice A l.length c, .slice B k.length d]) (j := 0) ?_ rfl; (repeat (first | with_reducible assumption | (with_reducible refine K.Box.alloc ?_ _) | (with_reducible refine K.Box.drew ?_) | (with_reducible refine K.Box.setOther ?_ (by simp <;> omega) _) | (with_reducible refine K.Box.below ?_ (by with_reducible assumption)))))), (by (refine K.Box.at_ (vs := [.slice A l.length c, .slice B k.length d]) (j := 1) ?_ rfl; (repeat (first | with_reducible assumption | (with_reducible refine K.Box.alloc ?_ _) | (with_reducible refine K.Box.drew ?_) | (with_reducible refine K.Box.setOther ?_ (by simp <;> omega) _) | (with_reducible refine K.Box.below ?_ (by with_reducible assumption)))))), (by (refine K.Box.at_ (vs := [.slice A2 l2.length c2, .slice B2 k2.length d2]) (j := 0) ?_ rfl; (repeat (first | with_reducible assumption | (with_reducible refine K.Box.alloc ?_ _) | (with_reducible refine K.Box.drew ?_) | (with_reducible refine K.Box.setOther ?_ (by simp <;> omega) _) | (with_reducible refine K.Box.below ?_ (by with_reducible assumption)))))), (by (refine K.Box.at_ (vs := [.slice A2 l2.length c2, .slice B2 k2.length d2]) (j := 1) ?_ rfl; (repeat (first | with_reducible assumption | (with_reducible refine K.Box.alloc ?_ _) | (with_reducible refine K.Box.drew ?_) | (with_reducible refine K.Box.setOther ?_ (by simp <;> omega) _) | (with_reducible refine K.Box.below ?_ (by with_reducible assumption))))))⟩))
        (first | (go_at_call 68; ((with_reducible refine (HV.out _ (by (repeat (first | with_reducible assumption | (with_reducible refine K.Rd.alloc ?_ _) | (with_reducible refine K.Rd.drew ?_) | (with_reducible refine K.Rd.below ?_ (by with_reducible assumption))))) (by (repeat (first | with_reducible assumption | (with_reducible refine K.Rd.alloc ?_ _) | (with_reducible refine K.Rd.drew ?_) | (with_reducible refine K.Rd.below ?_ (by with_reducible assumption)))))).mono ?_)); rintro e w3 ⟨rfl, b3⟩; have z3 : K.Own w3 (w.heap.size + 1 + 1) [.slice none 0 0, .slice none 0 0] := (by (repeat (first | with_reducible assumption | (with_reducible refine K.Own.alloc ?_ _) | (with_reducible refine K.Own.drew ?_) | (with_reducible refine K.Own.setOther ?_ (by simp <;> omega) _) | (with_reducible refine K.Own.below ?_ (by with_reducible assumption))))); have bb3 := Lib.hid (BB.out.drew.trans (b3.mono (by have hq := BB.out.size; simp <;> omega))); have s3 := b3.size; (try simp at s3)) | (go_at_call 68; ((with_reducible refine (HW.out _ (by (repeat (first | with_reducible assumption | (with_reducible refine K.Rd.alloc ?_ _) | (with_reducible refine K.Rd.drew ?_) | (with_reducible refine K.Rd.below ?_ (by with_reducible assumption))))) (by (repeat (first | with_reducible assumption | (with_reducible refine K.Rd.alloc ?_ _) | (with_reducible refine K.Rd.drew ?_) | (with_reducible refine K.Rd.below ?_ (by with_reducible assumption)))))).mono ?_)); rintro e w4 ⟨rfl, b4⟩; have z4 : K.Own w4 (w.heap.size + 1 + 1) [.slice none 0 0, .slice none 0 0] := (by (repeat (first | with_reducible assumption | (with_reducible refine K.Own.alloc ?_ _) | (with_reducible refine K.Own.drew ?_) | (with_reducible refine K.Own.setOther ?_ (by simp <;> omega) _) | (with_reducible refine K.Own.below ?_ (by with_reducible assumption))))); have bb4 := Lib.hid (bb3.out.trans (b4.mono (by have hq := bb3.out.size; simp <;> omega))); have s4 := b4.size; (try simp at s4)) | (go_at_call 22; ((with_reducible refine (HP.out _).mono ?_)); rintro e w5 ⟨X, n1, Y, m1, rfl, row, row2, apz, b5⟩; have z5 : K.Own w5 (w.heap.size + 1 + 1) [.slice none 0 0, .slice none 0 0] := (by (repeat (first | with_reducible assumption | (with_reducible refine K.Own.alloc ?_ _) | (with_reducible refine K.Own.drew ?_) | (with_reducible refine K.Own.setOther ?_ (by simp <;> omega) _) | (with_reducible refine K.Own.below ?_ (by with_reducible assumption))))); have bb5 := Lib.hid (bb4.out.trans (b5.mono (by have hq := bb4.out.size; simp <;> omega))); have s5 := b5.size; (try simp at s5); have hlt := row.lt; (try simp at hlt); have hlu := row2.lt; (try simp at hlu); have rw0 := row.more (lo' := w.heap.size) (by have hq := bb4.out.size; simp <;> omega); have rw1 := row2.more (lo' := w.heap.size) (by have hq := bb4.out.size; simp <;> omega); obtain ⟨z1, z2, z3, z4, z6⟩ := z5.c2))
      all_goals have h0 := BB.out.size
      all_goals have h3 := bb3.out.size
      all_goals have h4 := bb4.out.size
      all_goals have h5 := bb5.out.size
      all_goals have hzs := z.1.1
      all_goals have bbz := bb5.out
      all_goals clear sw
      all_goals go_wp2_with fail
      all_goals exact bodyPost_ret (v := .tuple #[.agg #[.slice X R.1.1.length n1, .slice Y R.1.2.length m1], .bool R.2]) (by first | (simp [results, Try.results36, go_sem]; done) | (simp [results, Try.results36, go_sem, *]; done)) rfl ⟨X, n1, Y, m1, rfl, by (repeat (first | with_reducible assumption | (with_reducible refine K.Row.setNe ?_ (fun g hg => by have hq := hlt g hg; simp at hq ⊢; omega) _) | (with_reducible refine K.Row.alloc ?_ _) | (with_reducible refine K.Row.drew ?_))), by (repeat (first | with_reducible assumption | (with_reducible refine K.Row.setNe ?_ (fun g hg => by have hq := hlu g hg; simp at hq ⊢; omega) _) | (with_reducible refine K.Row.alloc ?_ _) | (with_reducible refine K.Row.drew ?_))), apz, by (repeat (first | exact Below.refl _ _ | assumption | (refine K.below_drewN ?_ _) | (refine Below.drew ?_) | (refine Below.alloc ?_ (by first | (simp; done) | (simp; omega) | omega) _) | (refine Below.setCell ?_ (by first | (simp; done) | (simp; omega) | omega) _)))⟩
      --@end
set_option maxRecDepth 100000 in
set_option maxHeartbeats 2000000 in
theorem s_take (A : Option Addr) (c : Nat) (l : List Int) (B : Option Addr) (d : Nat) (k : List Int) (A2 : Option Addr) (c2 : Nat) (l2 : List Int) (B2 : Option Addr) (d2 : Nat) (k2 : List Int) (w : World) (hl : l.length ≤ 1048576) (hk : k.length ≤ 1048576) (ha : K.Rd w 1 A l.length (l.map (Value.int .i64))) (hb : K.Rd w 1 B k.length (k.map (Value.int .i64))) (hl2 : l2.length ≤ 1048576) (hk2 : k2.length ≤ 1048576) (ha2 : K.Rd w 1 A2 l2.length (l2.map (Value.int .i64))) (hb2 : K.Rd w 1 B2 k2.length (k2.map (Value.int .i64))) :
    Calls Try.prog 35 #[.agg #[.slice A l.length c, .slice B k.length d], .agg #[.slice A2 l2.length c2, .slice B2 k2.length d2]] w (BoardH.RetBoardB w (M.awayB l k l2 k2).1.1 (M.awayB l k l2 k2).1.2 (M.awayB l k l2 k2).2) := by
  obtain ⟨o0, ho0⟩ : ∃ o : Obj, o = .cells #[.slice A l.length c, .slice B k.length d] 27 := ⟨_, rfl⟩
  obtain ⟨o1, ho1⟩ : ∃ o : Obj, o = .cells #[.slice A2 l2.length c2, .slice B2 k2.length d2] 27 := ⟨_, rfl⟩
  obtain ⟨o2, ho2⟩ : ∃ o : Obj, o = .cells #[.slice none 0 0, .slice none 0 0] 27 := ⟨_, rfl⟩
  have r := ((ha.alloc o0).alloc o1).alloc o2
  have t := ((hb.alloc o0).alloc o1).alloc o2
  have r2 := ((ha2.alloc o0).alloc o1).alloc o2
  have t2 := ((hb2.alloc o0).alloc o1).alloc o2
  have x : K.Box (((w.alloc o0).alloc o1).alloc o2) w.heap.size [.slice A l.length c, .slice B k.length d] := by have h := K.Box.new w #[.slice A l.length c, .slice B k.length d] 27; rw [ho0]; exact (h.alloc o1).alloc o2
  have y : K.Box (((w.alloc o0).alloc o1).alloc o2) (w.heap.size + 1) [.slice A2 l2.length c2, .slice B2 k2.length d2] := by have h := K.Box.new (w.alloc o0) #[.slice A2 l2.length c2, .slice B2 k2.length d2] 27; rw [World.size_alloc] at h; rw [ho1]; exact h.alloc o2
  have z : K.Own (((w.alloc o0).alloc o1).alloc o2) (w.heap.size + 1 + 1) [.slice none 0 0, .slice none 0 0] := by have h := K.Own.new ((w.alloc o0).alloc o1) #[.slice none 0 0, .slice none 0 0] 27; rw [World.size_alloc, World.size_alloc] at h; rw [ho2]; exact h
  have bb : Below w.heap.size w (((w.alloc o0).alloc o1).alloc o2) := by (repeat (first | exact Below.refl _ _ | assumption | (refine K.below_drewN ?_ _) | (refine Below.drew ?_) | (refine Below.alloc ?_ (by first | (simp; done) | (simp; omega) | omega) _) | (refine Below.setCell ?_ (by first | (simp; done) | (simp; omega) | omega) _)))
  subst ho0 ho1 ho2
  have HS := Lib.hid (fun w h h2 => BoardF.s_good A c l B d k w hl hk h h2)
  have HS2 := Lib.hid (fun w h h2 => BoardF.s_good A2 c2 l2 B2 d2 k2 w hl2 hk2 h h2)
  cases hok : M.bOk l k with
  | false =>
    rw [hok] at HS
    rw [M.awayB_no (by simp [hok])]
    clear hok
    go_enter Try.func35, Try.ntmps35
    have p0 := x.c2
    have pg := x.1
    have p1 := y.c2
    have ph := y.1
    go_wp2_with fail
    refine (HS.out _ r t).mono ?_
    rintro e w1 ⟨rfl, b1⟩
    clear p0 pg p1 ph
    replace r := r.below b1
    replace t := t.below b1
    replace r2 := r2.below b1
    replace t2 := t2.below b1
    replace x := x.below b1
    replace y := y.below b1
    replace z := z.below b1
    replace bb := bb.trans (b1.mono bb.size)
    clear b1
    obtain ⟨z1, z2, z3, z4, z5⟩ := z.c2
    clear z x y r t r2 t2
    go_wp2_with fail
    exact bodyPost_ret (v := .tuple #[.agg #[.slice none 0 0, .slice none 0 0], .bool false]) (by simp [results, Try.results35, go_sem, *]) rfl ⟨none, 0, none, 0, rfl, K.Row.nil _ _ _ _, K.Row.nil _ _ _ _, fun g h => by simp [K.blk] at h, by (repeat (first | exact Below.refl _ _ | assumption | (refine K.below_drewN ?_ _) | (refine Below.drew ?_) | (refine Below.alloc ?_ (by first | (simp; done) | (simp; omega) | omega) _) | (refine Below.setCell ?_ (by first | (simp; done) | (simp; omega) | omega) _)))⟩
  | true =>
    rw [hok] at HS
    cases hok2 : M.bOk l2 k2 with
    | false =>
      rw [hok2] at HS2
      rw [M.awayB_no (by simp [hok2])]
      clear hok hok2
      go_enter Try.func35, Try.ntmps35
      have p0 := x.c2
      have pg := x.1
      have p1 := y.c2
      have ph := y.1
      go_wp2_with fail
      refine (HS.out _ r t).mono ?_
      rintro e w1 ⟨rfl, b1⟩
      clear p0 pg p1 ph
      replace r := r.below b1
      replace t := t.below b1
      replace r2 := r2.below b1
      replace t2 := t2.below b1
      replace x := x.below b1
      replace y := y.below b1
      replace z := z.below b1
      replace bb := bb.trans (b1.mono bb.size)
      clear b1
      have p0 := x.c2
      have pg := x.1
      have p1 := y.c2
      have ph := y.1
      go_wp2_with fail
      refine (HS2.out _ r2 t2).mono ?_
      rintro e w2 ⟨rfl, b2⟩
      clear p0 pg p1 ph
      replace r := r.below b2
      replace t := t.below b2
      replace r2 := r2.below b2
      replace t2 := t2.below b2
      replace x := x.below b2
      replace y := y.below b2
      replace z := z.below b2
      replace bb := bb.trans (b2.mono bb.size)
      clear b2
      obtain ⟨z1, z2, z3, z4, z5⟩ := z.c2
      clear z x y r t r2 t2
      go_wp2_with fail
      exact bodyPost_ret (v := .tuple #[.agg #[.slice none 0 0, .slice none 0 0], .bool false]) (by simp [results, Try.results35, go_sem, *]) rfl ⟨none, 0, none, 0, rfl, K.Row.nil _ _ _ _, K.Row.nil _ _ _ _, fun g h => by simp [K.blk] at h, by (repeat (first | exact Below.refl _ _ | assumption | (refine K.below_drewN ?_ _) | (refine Below.drew ?_) | (refine Below.alloc ?_ (by first | (simp; done) | (simp; omega) | omega) _) | (refine Below.setCell ?_ (by first | (simp; done) | (simp; omega) | omega) _)))⟩
    | true =>
      rw [hok2] at HS2
      rw [M.awayB_yes hok hok2]
      have v1 := M.bVal_facts hok 0 (Nat.zero_le _)
      have v2 := M.bVal_facts hok2 0 (Nat.zero_le _)
      rw [List.drop_zero, List.drop_zero] at v1 v2
      have hl16 := ((M.bOk_iff l k).1 hok).1
      have HV := Lib.hid (fun w h h2 => BoardF.s_val A c l B d k w hok h h2)
      have HW := Lib.hid (fun w h h2 => BoardF.s_val A2 c2 l2 B2 d2 k2 w hok2 h h2)
      obtain ⟨a, hva⟩ : ∃ a, a = M.bVal l k := ⟨_, rfl⟩
      obtain ⟨b, hvb⟩ : ∃ b, b = M.bVal l2 k2 := ⟨_, rfl⟩
      rw [← hva] at v1 HV ⊢
      rw [← hvb] at v2 HW ⊢
      have HP := Lib.hid (fun w => BoardS.s_l5set l.length (a - b) w hl16.1 hl16.2 (by omega))
      generalize M.setB (l.length : Int) (a - b) = R at HP ⊢
      clear hok hok2 hva hvb hl16
      go_enter Try.func35, Try.ntmps35
      have p0 := x.c2
      have pg := x.1
      have p1 := y.c2
      have ph := y.1
      go_wp2_with fail
      refine (HS.out _ r t).mono ?_
      rintro e w1 ⟨rfl, b1⟩
      clear p0 pg p1 ph
      replace r := r.below b1
      replace t := t.below b1
      replace r2 := r2.below b1
      replace t2 := t2.below b1
      replace x := x.below b1
      replace y := y.below b1
      replace z := z.below b1
      replace bb := bb.trans (b1.mono bb.size)
      clear b1
      have p0 := x.c2
      have pg := x.1
      have p1 := y.c2
      have ph := y.1
      go_wp2_with fail
      refine (HS2.out _ r2 t2).mono ?_
      rintro e w2 ⟨rfl, b2⟩
      clear p0 pg p1 ph
      replace r := r.below b2
      replace t := t.below b2
      replace r2 := r2.below b2
      replace t2 := t2.below b2
      replace x := x.below b2
      replace y := y.below b2
      replace z := z.below b2
      replace bb := bb.trans (b2.mono bb.size)
      clear b2
      have sw : IntKind.i64.wrap (a - b) = a - b := IntWalk.i64_in _ (by omega)
      have p0 := x.c2
      have pg := x.1
      have p1 := y.c2
      have ph := y.1
      go_wp2_with fail
      have BB := Lib.hid bb
      clear bb
      go_region_held3 (fun w' => w'.cell? ⟨w.heap.size, 0, none⟩ = some (.slice A l.length c) ∧ w'.cell? ⟨w.heap.size, 1, none⟩ = some (.slice B k.length d) ∧ w'.cell? ⟨w.heap.size + 1, 0, none⟩ = some (.slice A2 l2.length c2) ∧ w'.cell? ⟨w.heap.size + 1, 1, none⟩ = some (.slice B2 k2.length d2))
        (((try dsimp only); refine ⟨(by (refine K.Box.at_ (vs := [.slice A l.length c, .slice B k.length d]) (j := 0) ?_ rfl; (repeat (first | with_reducible assumption | (with_reducible refine K.Box.alloc ?_ _) | (with_reducible refine K.Box.drew ?_) | (with_reducible refine K.Box.setOther ?_ (by simp <;> omega) _) | (with_reducible refine K.Box.below ?_ (by with_reducible assumption)))))), (by (refine K.Box.at_ (vs := [.slice A l.length c, .slice B k.length d]) (j := 1) ?_ rfl; (repeat (first | with_reducible assumption | (with_reducible refine K.Box.alloc ?_ _) | (with_reducible refine K.Box.drew ?_) | (with_reducible refine K.Box.setOther ?_ (by simp <;> omega) _) | (with_reducible refine K.Box.below ?_ (by with_reducible assumption)))))), (by (refine K.Box.at_ (vs := [.slice A2 l2.length c2, .slice B2 k2.length d2]) (j := 0) ?_ rfl; (repeat (first | with_reducible assumption | (with_reducible refine K.Box.alloc ?_ _) | (with_reducible refine K.Box.drew ?_) | (with_reducible refine K.Box.setOther ?_ (by simp <;> omega) _) | (with_reducible refine K.Box.below ?_ (by with_reducible assumption)))))), (by (refine K.Box.at_ (vs := [.slice A2 l2.length c2, .slice B2 k2.length d2]) (j := 1) ?_ rfl; (repeat (first | with_reducible assumption | (with_reducible refine K.Box.alloc ?_ _) | (with_reducible refine K.Box.drew ?_) | (with_reducible refine K.Box.setOther ?_ (by simp <;> omega) _) | (with_reducible refine K.Box.below ?_ (by with_reducible assumption))))))⟩))
        (first | (go_at_call 67; first | (((with_reducible refine (HV.out (w2.alloc (.cells #[.slice none 0 0, .slice none 0 0] 27)).drew (by (repeat (first | with_reducible assumption | (with_reducible refine K.Rd.alloc ?_ _) | (with_reducible refine K.Rd.drew ?_) | (with_reducible refine K.Rd.below ?_ (by with_reducible assumption))))) (by (repeat (first | with_reducible assumption | (with_reducible refine K.Rd.alloc ?_ _) | (with_reducible refine K.Rd.drew ?_) | (with_reducible refine K.Rd.below ?_ (by with_reducible assumption)))))).mono ?_)); rintro e w3 ⟨rfl, b3⟩; have ow := (K.Own.new w2 #[.slice none 0 0, .slice none 0 0] 27).drew.below b3; obtain ⟨cw, cw1, fw, fw1, lw⟩ := ow.c2; have z3 : K.Own w3 (w.heap.size + 1 + 1) [.slice none 0 0, .slice none 0 0] := (by (repeat (first | with_reducible assumption | (with_reducible refine K.Own.alloc ?_ _) | (with_reducible refine K.Own.drew ?_) | (with_reducible refine K.Own.setOther ?_ (by simp <;> omega) _) | (with_reducible refine K.Own.below ?_ (by with_reducible assumption))))); have bb3 := Lib.hid (((BB.out.alloc BB.out.size (.cells #[.slice none 0 0, .slice none 0 0] 27)).drew).trans (b3.mono (by have hq := BB.out.size; simp <;> omega))); have s3 := b3.size; (try simp at s3)) | (((with_reducible refine (HV.out _ (by (repeat (first | with_reducible assumption | (with_reducible refine K.Rd.alloc ?_ _) | (with_reducible refine K.Rd.drew ?_) | (with_reducible refine K.Rd.below ?_ (by with_reducible assumption))))) (by (repeat (first | with_reducible assumption | (with_reducible refine K.Rd.alloc ?_ _) | (with_reducible refine K.Rd.drew ?_) | (with_reducible refine K.Rd.below ?_ (by with_reducible assumption)))))).mono ?_)); rintro e w3 ⟨rfl, b3⟩; (try (replace ow := ow.below b3; obtain ⟨cw, cw1, fw, fw1, lw⟩ := ow.c2)); have z3 : K.Own w3 (w.heap.size + 1 + 1) [.slice none 0 0, .slice none 0 0] := (by (repeat (first | with_reducible assumption | (with_reducible refine K.Own.alloc ?_ _) | (with_reducible refine K.Own.drew ?_) | (with_reducible refine K.Own.setOther ?_ (by simp <;> omega) _) | (with_reducible refine K.Own.below ?_ (by with_reducible assumption))))); have bb3 := Lib.hid (BB.out.drew.trans (b3.mono (by have hq := BB.out.size; simp <;> omega))); have s3 := b3.size; (try simp at s3))) | (go_at_call 67; first | (((with_reducible refine (HW.out (w3.alloc (.cells #[.slice none 0 0, .slice none 0 0] 27)) (by (repeat (first | with_reducible assumption | (with_reducible refine K.Rd.alloc ?_ _) | (with_reducible refine K.Rd.drew ?_) | (with_reducible refine K.Rd.below ?_ (by with_reducible assumption))))) (by (repeat (first | with_reducible assumption | (with_reducible refine K.Rd.alloc ?_ _) | (with_reducible refine K.Rd.drew ?_) | (with_reducible refine K.Rd.below ?_ (by with_reducible assumption)))))).mono ?_)); rintro e w4 ⟨rfl, b4⟩; have ow := (K.Own.new w3 #[.slice none 0 0, .slice none 0 0] 27).below b4; obtain ⟨cw, cw1, fw, fw1, lw⟩ := ow.c2; have z4 : K.Own w4 (w.heap.size + 1 + 1) [.slice none 0 0, .slice none 0 0] := (by (repeat (first | with_reducible assumption | (with_reducible refine K.Own.alloc ?_ _) | (with_reducible refine K.Own.drew ?_) | (with_reducible refine K.Own.setOther ?_ (by simp <;> omega) _) | (with_reducible refine K.Own.below ?_ (by with_reducible assumption))))); have bb4 := Lib.hid (((bb3.out.alloc bb3.out.size (.cells #[.slice none 0 0, .slice none 0 0] 27))).trans (b4.mono (by have hq := bb3.out.size; simp <;> omega))); have s4 := b4.size; (try simp at s4)) | (((with_reducible refine (HW.out _ (by (repeat (first | with_reducible assumption | (with_reducible refine K.Rd.alloc ?_ _) | (with_reducible refine K.Rd.drew ?_) | (with_reducible refine K.Rd.below ?_ (by with_reducible assumption))))) (by (repeat (first | with_reducible assumption | (with_reducible refine K.Rd.alloc ?_ _) | (with_reducible refine K.Rd.drew ?_) | (with_reducible refine K.Rd.below ?_ (by with_reducible assumption)))))).mono ?_)); rintro e w4 ⟨rfl, b4⟩; (try (replace ow := ow.below b4; obtain ⟨cw, cw1, fw, fw1, lw⟩ := ow.c2)); have z4 : K.Own w4 (w.heap.size + 1 + 1) [.slice none 0 0, .slice none 0 0] := (by (repeat (first | with_reducible assumption | (with_reducible refine K.Own.alloc ?_ _) | (with_reducible refine K.Own.drew ?_) | (with_reducible refine K.Own.setOther ?_ (by simp <;> omega) _) | (with_reducible refine K.Own.below ?_ (by with_reducible assumption))))); have bb4 := Lib.hid (bb3.out.trans (b4.mono (by have hq := bb3.out.size; simp <;> omega))); have s4 := b4.size; (try simp at s4))) | (go_at_call 61; first | (((with_reducible refine (HP.out (w4.alloc (.cells #[.slice none 0 0, .slice none 0 0] 27))).mono ?_)); rintro e w5 ⟨X, n1, Y, m1, rfl, row, row2, apz, b5⟩; have ow := (K.Own.new w4 #[.slice none 0 0, .slice none 0 0] 27).below b5; obtain ⟨cw, cw1, fw, fw1, lw⟩ := ow.c2; have z5 : K.Own w5 (w.heap.size + 1 + 1) [.slice none 0 0, .slice none 0 0] := (by (repeat (first | with_reducible assumption | (with_reducible refine K.Own.alloc ?_ _) | (with_reducible refine K.Own.drew ?_) | (with_reducible refine K.Own.setOther ?_ (by simp <;> omega) _) | (with_reducible refine K.Own.below ?_ (by with_reducible assumption))))); have bb5 := Lib.hid (((bb4.out.alloc bb4.out.size (.cells #[.slice none 0 0, .slice none 0 0] 27))).trans (b5.mono (by have hq := bb4.out.size; simp <;> omega))); have s5 := b5.size; (try simp at s5); have hlt := row.lt; (try simp at hlt); have hlu := row2.lt; (try simp at hlu); have rw0 := row.more (lo' := w.heap.size) (by have hq := bb4.out.size; simp <;> omega); have rw1 := row2.more (lo' := w.heap.size) (by have hq := bb4.out.size; simp <;> omega); obtain ⟨z1, z2, z3, z4, z6⟩ := z5.c2) | (((with_reducible refine (HP.out _).mono ?_)); rintro e w5 ⟨X, n1, Y, m1, rfl, row, row2, apz, b5⟩; (try (replace ow := ow.below b5; obtain ⟨cw, cw1, fw, fw1, lw⟩ := ow.c2)); have z5 : K.Own w5 (w.heap.size + 1 + 1) [.slice none 0 0, .slice none 0 0] := (by (repeat (first | with_reducible assumption | (with_reducible refine K.Own.alloc ?_ _) | (with_reducible refine K.Own.drew ?_) | (with_reducible refine K.Own.setOther ?_ (by simp <;> omega) _) | (with_reducible refine K.Own.below ?_ (by with_reducible assumption))))); have bb5 := Lib.hid (bb4.out.trans (b5.mono (by have hq := bb4.out.size; simp <;> omega))); have s5 := b5.size; (try simp at s5); have hlt := row.lt; (try simp at hlt); have hlu := row2.lt; (try simp at hlu); have rw0 := row.more (lo' := w.heap.size) (by have hq := bb4.out.size; simp <;> omega); have rw1 := row2.more (lo' := w.heap.size) (by have hq := bb4.out.size; simp <;> omega); obtain ⟨z1, z2, z3, z4, z6⟩ := z5.c2)))
      all_goals have h0 := BB.out.size
      all_goals have h3 := bb3.out.size
      all_goals have h4 := bb4.out.size
      all_goals have h5 := bb5.out.size
      all_goals have hzs := z.1.1
      all_goals have bbz := bb5.out
      all_goals clear sw
      all_goals go_wp2_with fail
      all_goals exact bodyPost_ret (v := .tuple #[.agg #[.slice X R.1.1.length n1, .slice Y R.1.2.length m1], .bool R.2]) (by first | (simp [results, Try.results35, go_sem]; done) | (simp [results, Try.results35, go_sem, *]; done)) rfl ⟨X, n1, Y, m1, rfl, by (repeat (first | with_reducible assumption | (with_reducible refine K.Row.setNe ?_ (fun g hg => by have hq := hlt g hg; simp at hq ⊢; omega) _) | (with_reducible refine K.Row.alloc ?_ _) | (with_reducible refine K.Row.drew ?_))), by (repeat (first | with_reducible assumption | (with_reducible refine K.Row.setNe ?_ (fun g hg => by have hq := hlu g hg; simp at hq ⊢; omega) _) | (with_reducible refine K.Row.alloc ?_ _) | (with_reducible refine K.Row.drew ?_))), apz, by (repeat (first | exact Below.refl _ _ | assumption | (refine K.below_drewN ?_ _) | (refine Below.drew ?_) | (refine Below.alloc ?_ (by first | (simp; done) | (simp; omega) | omega) _) | (refine Below.setCell ?_ (by first | (simp; done) | (simp; omega) | omega) _)))⟩
      --@end
end Go.Proofs.Ytmgegacgjppdbaa.BoardT
