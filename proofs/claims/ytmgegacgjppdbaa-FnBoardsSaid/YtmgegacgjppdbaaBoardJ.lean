/-
  Walks: two boards joined (printed by gen_join.py).
-/
import Derived.Test.YtmgegacgjppdbaaBoardO
import Derived.Test.YtmgegacgjppdbaaKit5
import Derived.Deep.DeepCutAuto
import Derived.Deep.RegionHeld3
import Derived.BigRegion
set_option linter.unusedVariables false
namespace Go.Proofs.Ytmgegacgjppdbaa.BoardJ
open Go.RowKit
theorem rowintN {w : World} {lo c n : Nat} {e : TypeId} {A : Option Addr} {L : List Int} (h : K.Row w lo e 1 A n c (L.map (Value.int .i64))) (hn : L.length = n) {k : Nat} (hk : k < n) :
    ∃ g, A = some ⟨g, 0, none⟩ ∧ lo ≤ g ∧ g < w.heap.size ∧ w.cell? ⟨g, k, none⟩ = some (.int .i64 (L[k]'(by omega))) ∧ w.frozen? ⟨g, k, none⟩ = false := by
  subst hn
  exact h.int hk
set_option maxRecDepth 100000 in
set_option maxHeartbeats 4000000 in
theorem i_join (A : Option Addr) (c : Nat) (l : List Int) (B : Option Addr) (d : Nat) (k : List Int) (A2 : Option Addr) (c2 : Nat) (l2 : List Int) (B2 : Option Addr) (d2 : Nat) (k2 : List Int) (w : World) (hl : l.length ≤ 1048576) (hk : k.length ≤ 1048576) (ha : K.Rd w 1 A l.length (l.map (Value.int .i64))) (hb : K.Rd w 1 B k.length (k.map (Value.int .i64))) (hl2 : l2.length ≤ 1048576) (hk2 : k2.length ≤ 1048576) (ha2 : K.Rd w 1 A2 l2.length (l2.map (Value.int .i64))) (hb2 : K.Rd w 1 B2 k2.length (k2.map (Value.int .i64))) :
    Calls Try.prog 34 #[.agg #[.slice A l.length c, .slice B k.length d], .agg #[.slice A2 l2.length c2, .slice B2 k2.length d2]] w (BoardH.RetBoardB w (M.joinB l k l2 k2).1.1 (M.joinB l k l2 k2).1.2 (M.joinB l k l2 k2).2) := by
  obtain ⟨o0, ho0⟩ : ∃ o : Obj, o = .cells #[.slice A l.length c, .slice B k.length d] 27 := ⟨_, rfl⟩
  obtain ⟨o1, ho1⟩ : ∃ o : Obj, o = .cells #[.slice A2 l2.length c2, .slice B2 k2.length d2] 27 := ⟨_, rfl⟩
  obtain ⟨o2, ho2⟩ : ∃ o : Obj, o = .cells #[.slice none 0 0, .slice none 0 0] 27 := ⟨_, rfl⟩
  have r := ((ha.alloc o0).alloc o1).alloc o2
  have t := ((hb.alloc o0).alloc o1).alloc o2
  have r2 := ((ha2.alloc o0).alloc o1).alloc o2
  have t2 := ((hb2.alloc o0).alloc o1).alloc o2
  have x : K.Box (((w.alloc o0).alloc o1).alloc o2) w.heap.size [.slice A l.length c, .slice B k.length d] := by have h := K.Box.new w #[.slice A l.length c, .slice B k.length d] 27; rw [ho0]; exact (h.alloc o1).alloc o2
  have y : K.Box (((w.alloc o0).alloc o1).alloc o2) (w.heap.size + 1) [.slice A2 l2.length c2, .slice B2 k2.length d2] := by have h := K.Box.new (w.alloc o0) #[.slice A2 l2.length c2, .slice B2 k2.length d2] 27; rw [World.size_alloc] at h; rw [ho1]; exact h.alloc o2
  have z : K.Own (((w.alloc o0).alloc o1).alloc o2) (w.heap.size + 1 + 1) [.slice none 0 0, .slice none 0 0] := by have h := K.Own.new ((w.alloc o0).alloc o1) #[.slice none 0 0, .slice none 0 0] 27; rw [World.size_alloc, World.size_alloc] at h; rw [ho2]; exact h
  have bb : Below w.heap.size w (((w.alloc o0).alloc o1).alloc o2) := by (repeat (first | exact Below.refl _ _ | assumption | (refine K.below_drewN ?_ _) | (refine Below.drew ?_) | (refine Below.alloc ?_ (by first | (simp; done) | (simp; omega) | omega) _) | (refine Below.setCell ?_ (by first | (simp; done) | (simp; omega) | omega) _)))
  subst ho0 ho1 ho2
  have HS := Lib.hid (fun w h h2 => BoardF.i_board A c l B d k w hl hk h h2)
  have HS2 := Lib.hid (fun w h h2 => BoardF.i_board A2 c2 l2 B2 d2 k2 w hl2 hk2 h h2)
  cases hok : M.bOk l k with
  | false =>
    rw [hok] at HS
    rw [M.joinB_no (by simp [hok])]
    clear hok
    go_enter Try.func34, Try.ntmps34
    have p0 := x.c2
    have pg := x.1
    have p1 := y.c2
    have ph := y.1
    go_wp2_with fail
    refine (HS.out _ r t).mono ?_
    rintro e w1 ⟨rfl, b1⟩
    clear p0 pg p1 ph
    replace r := r.below b1
    replace t := t.below b1
    replace r2 := r2.below b1
    replace t2 := t2.below b1
    replace x := x.below b1
    replace y := y.below b1
    replace z := z.below b1
    replace bb := bb.trans (b1.mono bb.size)
    clear b1
    obtain ⟨z1, z2, z3, z4, z5⟩ := z.c2
    clear z x y r t r2 t2
    go_wp2_with fail
    exact bodyPost_ret (v := .tuple #[.agg #[.slice none 0 0, .slice none 0 0], .bool false]) (by simp [results, Try.results34, go_sem, *]) rfl ⟨none, 0, none, 0, rfl, K.Row.nil _ _ _ _, K.Row.nil _ _ _ _, fun g h => by simp [K.blk] at h, by (repeat (first | exact Below.refl _ _ | assumption | (refine K.below_drewN ?_ _) | (refine Below.drew ?_) | (refine Below.alloc ?_ (by first | (simp; done) | (simp; omega) | omega) _) | (refine Below.setCell ?_ (by first | (simp; done) | (simp; omega) | omega) _)))⟩
  | true =>
    rw [hok] at HS
    cases hok2 : M.bOk l2 k2 with
    | false =>
      rw [hok2] at HS2
      rw [M.joinB_no (by simp [hok2])]
      clear hok hok2
      go_enter Try.func34, Try.ntmps34
      have p0 := x.c2
      have pg := x.1
      have p1 := y.c2
      have ph := y.1
      go_wp2_with fail
      refine (HS.out _ r t).mono ?_
      rintro e w1 ⟨rfl, b1⟩
      clear p0 pg p1 ph
      replace r := r.below b1
      replace t := t.below b1
      replace r2 := r2.below b1
      replace t2 := t2.below b1
      replace x := x.below b1
      replace y := y.below b1
      replace z := z.below b1
      replace bb := bb.trans (b1.mono bb.size)
      clear b1
      have p0 := x.c2
      have pg := x.1
      have p1 := y.c2
      have ph := y.1
      go_wp2_with fail
      refine (HS2.out _ r2 t2).mono ?_
      rintro e w2 ⟨rfl, b2⟩
      clear p0 pg p1 ph
      replace r := r.below b2
      replace t := t.below b2
      replace r2 := r2.below b2
      replace t2 := t2.below b2
      replace x := x.below b2
      replace y := y.below b2
      replace z := z.below b2
      replace bb := bb.trans (b2.mono bb.size)
      clear b2
      obtain ⟨z1, z2, z3, z4, z5⟩ := z.c2
      clear z x y r t r2 t2
      go_wp2_with fail
      exact bodyPost_ret (v := .tuple #[.agg #[.slice none 0 0, .slice none 0 0], .bool false]) (by simp [results, Try.results34, go_sem, *]) rfl ⟨none, 0, none, 0, rfl, K.Row.nil _ _ _ _, K.Row.nil _ _ _ _, fun g h => by simp [K.blk] at h, by (repeat (first | exact Below.refl _ _ | assumption | (refine K.below_drewN ?_ _) | (refine Below.drew ?_) | (refine Below.alloc ?_ (by first | (simp; done) | (simp; omega) | omega) _) | (refine Below.setCell ?_ (by first | (simp; done) | (simp; omega) | omega) _)))⟩
    | true =>
      rw [hok2] at HS2
      by_cases hln : l.length = l2.length
      rotate_left
      · rw [M.joinB_no (fun h => hln h.2.2.1)]
        have hd : (((l.length : Nat) : Int) != ((l2.length : Nat) : Int)) = true := by simp; omega
        clear hok hok2 hln
        go_enter Try.func34, Try.ntmps34
        have p0 := x.c2
        have pg := x.1
        have p1 := y.c2
        have ph := y.1
        go_wp2_with fail
        refine (HS.out _ r t).mono ?_
        rintro e w1 ⟨rfl, b1⟩
        clear p0 pg p1 ph
        replace r := r.below b1
        replace t := t.below b1
        replace r2 := r2.below b1
        replace t2 := t2.below b1
        replace x := x.below b1
        replace y := y.below b1
        replace z := z.below b1
        replace bb := bb.trans (b1.mono bb.size)
        clear b1
        have p0 := x.c2
        have pg := x.1
        have p1 := y.c2
        have ph := y.1
        go_wp2_with fail
        refine (HS2.out _ r2 t2).mono ?_
        rintro e w2 ⟨rfl, b2⟩
        clear p0 pg p1 ph
        replace r := r.below b2
        replace t := t.below b2
        replace r2 := r2.below b2
        replace t2 := t2.below b2
        replace x := x.below b2
        replace y := y.below b2
        replace z := z.below b2
        replace bb := bb.trans (b2.mono bb.size)
        clear b2
        obtain ⟨z1, z2, z3, z4, z5⟩ := z.c2
        have p0 := x.c2
        have pg := x.1
        have p1 := y.c2
        have ph := y.1
        clear z x y r t r2 t2
        go_wp2_with fail
        exact bodyPost_ret (v := .tuple #[.agg #[.slice none 0 0, .slice none 0 0], .bool false]) (by simp [results, Try.results34, go_sem, *]) rfl ⟨none, 0, none, 0, rfl, K.Row.nil _ _ _ _, K.Row.nil _ _ _ _, fun g h => by simp [K.blk] at h, by (repeat (first | exact Below.refl _ _ | assumption | (refine K.below_drewN ?_ _) | (refine Below.drew ?_) | (refine Below.alloc ?_ (by first | (simp; done) | (simp; omega) | omega) _) | (refine Below.setCell ?_ (by first | (simp; done) | (simp; omega) | omega) _)))⟩
      · have hd : (((l.length : Nat) : Int) != ((l2.length : Nat) : Int)) = false := by simp; omega
        obtain ⟨hl16, hkl, hlx, hkx⟩ := (M.bOk_iff l k).1 hok
        obtain ⟨_, hkl2, hlx2, hkx2⟩ := (M.bOk_iff l2 k2).1 hok2
        have hkk : k.length = k2.length := by omega
        have HG := Lib.hid (fun (X : Option Addr) (n1 : Nat) (Y : Option Addr) (m1 : Nat) (w : World) (h : K.Rd w 1 X (M.addL l l2).length ((M.addL l l2).map (Value.int .i64))) (h2 : K.Rd w 1 Y (M.addL k k2).length ((M.addL k k2).map (Value.int .i64))) => BoardF.i_board X n1 (M.addL l l2) Y m1 (M.addL k k2) w (by rw [M.addL_len l l2 hln]; exact hl) (by rw [M.addL_len k k2 hkk]; exact hk) h h2)
        rw [M.addL_len l l2 hln, M.addL_len k k2 hkk] at HG
        have HNO := Lib.hid (fun h : M.bOk (M.addL l l2) (M.addL k k2) = false => M.joinB_no (l := l) (k := k) (l2 := l2) (k2 := k2) (fun hh => by rw [hh.2.2.2] at h; cases h))
        have HYE := Lib.hid (fun h : M.bOk (M.addL l l2) (M.addL k k2) = true => M.joinB_yes (l := l) (k := k) (l2 := l2) (k2 := k2) ⟨hok, hok2, hln, h⟩)
        generalize M.joinB l k l2 k2 = RR at *
        have HAL := Lib.hid (M.addTo_all l l2 hln)
        have HAK := Lib.hid (show M.addTo k k2 l.length = M.addL k k2 by rw [← hkl]; exact M.addTo_all k k2 hkk)
        have HTL := Lib.hid (fun j hj => M.addTo_len l l2 hln j hj)
        have HTK := Lib.hid (fun j hj => M.addTo_len k k2 hkk j hj)
        have HSL := Lib.hid (fun j hj => M.addTo_succ l l2 hln j hj)
        have HSK := Lib.hid (fun j hj => M.addTo_succ k k2 hkk j hj)
        have HATL := Lib.hid (fun j hj hj2 => M.addTo_at l l2 hln j hj hj2)
        have HATK := Lib.hid (fun j hj hj2 => M.addTo_at k k2 hkk j hj hj2)
        have HLN := Lib.hid (M.addL_len l l2 hln)
        have HKN := Lib.hid (M.addL_len k k2 hkk)
        have HKL := Lib.hid hkl
        have HLL := Lib.hid hln
        have HKK := Lib.hid hkk
        clear hok hok2 hkl hkl2 hln hkk
        go_enter Try.func34, Try.ntmps34
        have p0 := x.c2
        have pg := x.1
        have p1 := y.c2
        have ph := y.1
        go_wp2_with fail
        refine (HS.out _ r t).mono ?_
        rintro e w1 ⟨rfl, b1⟩
        clear p0 pg p1 ph
        replace r := r.below b1
        replace t := t.below b1
        replace r2 := r2.below b1
        replace t2 := t2.below b1
        replace x := x.below b1
        replace y := y.below b1
        replace z := z.below b1
        replace bb := bb.trans (b1.mono bb.size)
        clear b1
        have p0 := x.c2
        have pg := x.1
        have p1 := y.c2
        have ph := y.1
        go_wp2_with fail
        refine (HS2.out _ r2 t2).mono ?_
        rintro e w2 ⟨rfl, b2⟩
        clear p0 pg p1 ph
        replace r := r.below b2
        replace t := t.below b2
        replace r2 := r2.below b2
        replace t2 := t2.below b2
        replace x := x.below b2
        replace y := y.below b2
        replace z := z.below b2
        replace bb := bb.trans (b2.mono bb.size)
        clear b2
        have p0 := x.c2
        have pg := x.1
        have p1 := y.c2
        have ph := y.1
        have hz9 := z.1.1
        go_upto_region 3 with fail
        clear p0 pg p1 ph
        go_cut [6] (fun sb wx => ∃ (X : Option Addr) (n1 : Nat) (Y : Option Addr) (m1 g : Nat), sb = .pointer (some ⟨g, 0, none⟩) ∧ K.Own wx g [.slice X l.length n1, .slice Y k.length m1] ∧ K.Row wx w2.heap.size 3 1 X l.length n1 (l.map (Value.int .i64)) ∧ K.Row wx w2.heap.size 3 1 Y k.length m1 (k.map (Value.int .i64)) ∧ (∀ q, K.blk X = some q → K.blk Y ≠ some q) ∧ K.blk X ≠ some g ∧ K.blk Y ≠ some g ∧ w2.heap.size ≤ g ∧ Below w2.heap.size w2 wx)
        case first =>
          have p0 := x.c2
          have pg := x.1
          have BB := Lib.hid (Below.refl w2.heap.size w2)
          go_region_held3 (fun w' => w'.cell? ⟨w.heap.size, 0, none⟩ = some (.slice A l.length c) ∧ w'.cell? ⟨w.heap.size, 1, none⟩ = some (.slice B k.length d))
            (((try dsimp only); refine ⟨(by (refine K.Box.at_ (vs := [.slice A l.length c, .slice B k.length d]) (j := 0) ?_ rfl; (repeat (first | with_reducible assumption | (with_reducible refine K.Box.alloc ?_ _) | (with_reducible refine K.Box.drew ?_) | (with_reducible refine K.Box.setOther ?_ (by simp <;> omega) _) | (with_reducible refine K.Box.below ?_ (by with_reducible assumption)))))), (by (refine K.Box.at_ (vs := [.slice A l.length c, .slice B k.length d]) (j := 1) ?_ rfl; (repeat (first | with_reducible assumption | (with_reducible refine K.Box.alloc ?_ _) | (with_reducible refine K.Box.drew ?_) | (with_reducible refine K.Box.setOther ?_ (by simp <;> omega) _) | (with_reducible refine K.Box.below ?_ (by with_reducible assumption))))))⟩))
            (first | (go_at_call 73; first | (((with_reducible refine (BoardO.i_copy A c l (w2.alloc (.cells #[.slice none 0 0, .slice none 0 0] 27)).drew hl (by (repeat (first | with_reducible assumption | (with_reducible refine K.Rd.alloc ?_ _) | (with_reducible refine K.Rd.drew ?_) | (with_reducible refine K.Rd.below ?_ (by with_reducible assumption)))))).mono ?_)); rintro e wv1 ⟨X, n1, rfl, row, b1⟩; have ow := (K.Own.new w2 #[.slice none 0 0, .slice none 0 0] 27).drew.below b1; obtain ⟨cw, cw1, fw, fw1, lw⟩ := ow.c2; have bb1 := Lib.hid (((BB.out.alloc BB.out.size (.cells #[.slice none 0 0, .slice none 0 0] 27)).drew).trans (b1.mono (by have hq := BB.out.size; simp <;> omega))); have s1 := b1.size; (try simp at s1); have hlt := row.lt; (try simp at hlt); have rw0 := row.more (lo' := w2.heap.size) (by have hq := BB.out.size; simp <;> omega)) | (((with_reducible refine (BoardO.i_copy A c l _ hl (by (repeat (first | with_reducible assumption | (with_reducible refine K.Rd.alloc ?_ _) | (with_reducible refine K.Rd.drew ?_) | (with_reducible refine K.Rd.below ?_ (by with_reducible assumption)))))).mono ?_)); rintro e wv1 ⟨X, n1, rfl, row, b1⟩; (try (replace ow := ow.below b1; obtain ⟨cw, cw1, fw, fw1, lw⟩ := ow.c2)); have bb1 := Lib.hid (BB.out.drew.trans (b1.mono (by have hq := BB.out.size; simp <;> omega))); have s1 := b1.size; (try simp at s1); have hlt := row.lt; (try simp at hlt); have rw0 := row.more (lo' := w2.heap.size) (by have hq := BB.out.size; simp <;> omega))) | (go_at_call 73; first | (((with_reducible refine (BoardO.i_copy B d k (wv1.alloc (.cells #[.slice none 0 0, .slice none 0 0] 27)) hk (by (repeat (first | with_reducible assumption | (with_reducible refine K.Rd.alloc ?_ _) | (with_reducible refine K.Rd.drew ?_) | (with_reducible refine K.Rd.below ?_ (by with_reducible assumption)))))).mono ?_)); rintro e wv2 ⟨Y, m1, rfl, row2, b2⟩; have ow := (K.Own.new wv1 #[.slice none 0 0, .slice none 0 0] 27).below b2; obtain ⟨cw, cw1, fw, fw1, lw⟩ := ow.c2; have bb2 := Lib.hid (((bb1.out.alloc bb1.out.size (.cells #[.slice none 0 0, .slice none 0 0] 27))).trans (b2.mono (by have hq := bb1.out.size; simp <;> omega))); have s2 := b2.size; (try simp at s2); have hlu := row2.lt; (try simp at hlu); have rw1 := row2.more (lo' := w2.heap.size) (by have hq := bb1.out.size; simp <;> omega); have apz : ∀ q, K.blk X = some q → K.blk Y ≠ some q := (fun q h1 h2 => by have e1 := hlt q h1; have e2 := hlu q h2; omega); have rwb := (rw0.alloc (.cells #[.slice none 0 0, .slice none 0 0] 27)).below b2) | (((with_reducible refine (BoardO.i_copy B d k _ hk (by (repeat (first | with_reducible assumption | (with_reducible refine K.Rd.alloc ?_ _) | (with_reducible refine K.Rd.drew ?_) | (with_reducible refine K.Rd.below ?_ (by with_reducible assumption)))))).mono ?_)); rintro e wv2 ⟨Y, m1, rfl, row2, b2⟩; (try (replace ow := ow.below b2; obtain ⟨cw, cw1, fw, fw1, lw⟩ := ow.c2)); have bb2 := Lib.hid (bb1.out.trans (b2.mono (by have hq := bb1.out.size; simp <;> omega))); have s2 := b2.size; (try simp at s2); have hlu := row2.lt; (try simp at hlu); have rw1 := row2.more (lo' := w2.heap.size) (by have hq := bb1.out.size; simp <;> omega); have apz : ∀ q, K.blk X = some q → K.blk Y ≠ some q := (fun q h1 h2 => by have e1 := hlt q h1; have e2 := hlu q h2; omega); have rwb := rw0.below b2)))
          all_goals have h0 := BB.out.size
          all_goals have h1 := bb1.out.size
          all_goals have h2 := bb2.out.size
          all_goals have bbz := bb2.out
          all_goals go_wp2_with fail
          all_goals go_meet
          all_goals exact ⟨X, n1, Y, m1, _, rfl, (by first | exact K.Own.set2 ow _ _ | exact K.Own.new _ _ _), by (repeat (first | with_reducible assumption | (with_reducible refine K.Row.setNe ?_ (fun g hg => by have hq := hlt g hg; simp at hq ⊢; omega) _) | (with_reducible refine K.Row.alloc ?_ _) | (with_reducible refine K.Row.drew ?_))), by (repeat (first | with_reducible assumption | (with_reducible refine K.Row.setNe ?_ (fun g hg => by have hq := hlu g hg; simp at hq ⊢; omega) _) | (with_reducible refine K.Row.alloc ?_ _) | (with_reducible refine K.Row.drew ?_))), apz, (fun h => by have hq := hlt _ h; first | omega | (simp at hq; done) | (simp at hq; omega)), (fun h => by have hq := hlu _ h; first | omega | (simp at hq; done) | (simp at hq; omega)), by first | omega | (simp; done) | (simp; omega), by (repeat (first | exact Below.refl _ _ | assumption | (refine K.below_drewN ?_ _) | (refine Below.drew ?_) | (refine Below.alloc ?_ (by first | (simp; done) | (simp; omega) | omega) _) | (refine Below.setCell ?_ (by first | (simp; done) | (simp; omega) | omega) _)))⟩
        obtain ⟨X, n1, Y, m1, g, rfl, own, rowx, rowy, apxy, nbx, nby, hgq, bq⟩ := hcut
        rename World => wq
        replace x := x.below bq
        replace y := y.below bq
        replace z := z.below bq
        have hW0 := bb.size
        replace bb := bb.trans (bq.mono bb.size)
        clear bq r t r2 t2
        obtain ⟨gx, rfl, gx1, gx2, hcx0, hfx0⟩ := rowx.int (k := 0) (by omega)
        obtain ⟨gy, rfl, gy1, gy2, hcy0, hfy0⟩ := rowy.int (k := 0) (by have := HKL.out; omega)
        clear hcx0 hfx0 hcy0 hfy0
        replace rowx := rowx.more (lo' := w.heap.size + 1 + 1 + 1) (by omega)
        replace rowy := rowy.more (lo' := w.heap.size + 1 + 1 + 1) (by omega)
        have hgg : w.heap.size + 1 + 1 + 1 ≤ g := by omega
        have hgx : w.heap.size + 1 + 1 + 1 ≤ gx := by omega
        have hgy : w.heap.size + 1 + 1 + 1 ≤ gy := by omega
        have n1a : ¬ gx = gy := fun e => apxy gx rfl (by rw [e]; rfl)
        have n1b : ¬ gy = gx := fun e => n1a e.symm
        have n2a : ¬ gx = g := fun e => nbx (by rw [← e]; rfl)
        have n2b : ¬ gy = g := fun e => nby (by rw [← e]; rfl)
        have HAP := Lib.hid apxy
        clear apxy nbx nby
        have q1 := y.c2
        have qh := y.1
        go_wp2_with fail
        clear q1 qh
        clear x
        go_loopw [36] (fun s wr => ∃ j : Nat, j ≤ l.length ∧ s = .int .i64 (j : Int) ∧ Hid (K.Row wr (w.heap.size + 1 + 1 + 1) 3 1 (some ⟨gx, 0, none⟩) l.length n1 ((M.addTo l l2 j).map (Value.int .i64))) ∧ Hid (K.Row wr (w.heap.size + 1 + 1 + 1) 3 1 (some ⟨gy, 0, none⟩) k.length m1 ((M.addTo k k2 j).map (Value.int .i64))) ∧ Hid (K.Own wr g [.slice (some ⟨gx, 0, none⟩) l.length n1, .slice (some ⟨gy, 0, none⟩) k.length m1]) ∧ Hid (K.Box wr (w.heap.size + 1) [.slice A2 l2.length c2, .slice B2 k2.length d2]) ∧ Hid (K.Own wr (w.heap.size + 1 + 1) [.slice none 0 0, .slice none 0 0]) ∧ Hid (Below w.heap.size w wr)) (fun s _ => l2.length - (intOf s).toNat)
        case atStart => exact ⟨0, Nat.zero_le _, rfl, Lib.hid (by rw [M.addTo_zero]; exact rowx), Lib.hid (by rw [M.addTo_zero]; exact rowy), Lib.hid own, Lib.hid y, Lib.hid z, Lib.hid bb⟩
        case round =>
          clear rowx rowy own y z bb
          obtain ⟨j, hj, rfl, HRX, HRY, HOW, HY, HZ, HB⟩ := hrel
          by_cases hlt : j < l.length
          · have hj2 : j < l2.length := by have := HLL.out; omega
            have hjk : j < k.length := by have := HKL.out; omega
            have hjk2 : j < k2.length := by have := HKK.out; omega
            have h1 : (j : Int) < (l.length : Int) := by omega
            have h2 : (0 : Int) ≤ (j : Int) := by omega
            have h3 : (j : Int) < (l2.length : Int) := by omega
            have h4 : (j : Int) < (k.length : Int) := by omega
            have h5 : (j : Int) < (k2.length : Int) := by omega
            have hTL : (M.addTo l l2 j).length = l.length := HTL.out j (by omega)
            have hTK : (M.addTo k k2 j).length = k.length := HTK.out j (by omega)
            have eL := HATL.out j hlt (by omega)
            have eK := HATK.out j hjk (by omega)
            have HNL := Lib.hid (HSL.out j hlt hj2)
            have HNK := Lib.hid (HSK.out j hjk hjk2)
            obtain ⟨a1, a2⟩ := hlx l[j] (List.getElem_mem _)
            obtain ⟨a3, a4⟩ := hlx2 l2[j] (List.getElem_mem _)
            obtain ⟨b1, b2⟩ := hkx k[j] (List.getElem_mem _)
            obtain ⟨b3, b4⟩ := hkx2 k2[j] (List.getElem_mem _)
            obtain ⟨ga, oa, hA2, hga, hca⟩ := ha2.intB hj2
            obtain ⟨gb, ob2, hB2, hgb, hcb⟩ := hb2.intB hjk2
            subst hA2 hB2
            obtain ⟨gx9, hx9, _, gx2, hcx, hfx⟩ := rowintN HRX.out hTL hlt
            injection hx9 with hx9
            injection hx9 with hx9
            subst hx9
            obtain ⟨gy9, hy9, _, gy2, hcy, hfy⟩ := rowintN HRY.out hTK hjk
            injection hy9 with hy9
            injection hy9 with hy9
            subst hy9
            rw [eL] at hcx
            rw [eK] at hcy
            generalize l[j] = u1 at *
            generalize l2[j] = u2 at *
            generalize k[j] = v1 at *
            generalize k2[j] = v2 at *
            clear eL eK hTL hTK
            have w1s := HB.out.size
            obtain ⟨w11, w12, w13, w14, w15⟩ := HOW.out.c2
            obtain ⟨y1, y2⟩ := HY.out.c2
            have y3 := HY.out.1
            have hcz := (HB.out.cell (p := ⟨ga, oa + j, none⟩) hga).trans hca
            have sb : IntKind.i64.wrap (u1 + u2) = u1 + u2 := IntWalk.i64_in _ (by omega)
            go_wp2_with fail
            go_region
            all_goals (try clear sb)
            obtain ⟨W2, hW2⟩ : ∃ X, X = (wr.setCell ⟨gx, j, none⟩ (.int .i64 (u1 + u2))).drew := ⟨_, rfl⟩
            have HRX2 := Lib.hid (show K.Row W2 (w.heap.size + 1 + 1 + 1) 3 1 (some ⟨gx, 0, none⟩) l.length n1 ((M.addTo l l2 (j + 1)).map (Value.int .i64)) by rw [hW2, HNL.out]; exact (HRX.out.setInt j _).drew)
            have HRYn := Lib.hid (show K.Row W2 (w.heap.size + 1 + 1 + 1) 3 1 (some ⟨gy, 0, none⟩) k.length m1 ((M.addTo k k2 j).map (Value.int .i64)) by rw [hW2]; exact (HRY.out.setNe (p := ⟨gx, j, none⟩) (fun q hq => by simp [K.blk] at hq; subst hq; exact n1a) _).drew)
            have HOWn := Lib.hid (show K.Own W2 g [.slice (some ⟨gx, 0, none⟩) l.length n1, .slice (some ⟨gy, 0, none⟩) k.length m1] by rw [hW2]; exact (HOW.out.setOther (p := ⟨gx, j, none⟩) n2a _).drew)
            have HYn := Lib.hid (show K.Box W2 (w.heap.size + 1) [.slice (some ⟨ga, oa, none⟩) l2.length c2, .slice (some ⟨gb, ob2, none⟩) k2.length d2] by rw [hW2]; exact (HY.out.setOther (p := ⟨gx, j, none⟩) (by first | (simp; done) | (simp; omega)) _).drew)
            have HZn := Lib.hid (show K.Own W2 (w.heap.size + 1 + 1) [.slice none 0 0, .slice none 0 0] by rw [hW2]; exact (HZ.out.setOther (p := ⟨gx, j, none⟩) (by first | (simp; done) | (simp; omega)) _).drew)
            have HBn := Lib.hid (show Below w.heap.size w W2 by rw [hW2]; exact (HB.out.setCell (p := ⟨gx, j, none⟩) (by first | (simp; done) | (simp; omega)) _).drew)
            have hcy2 : W2.cell? ⟨gy, j, none⟩ = some (.int .i64 v1) := by rw [hW2]; exact (World.cell?_setCell_other _ _ _ _ (by first | (simp; done) | (simp; omega))).trans hcy
            have hfy2 : W2.frozen? ⟨gy, j, none⟩ = false := by rw [hW2]; exact (World.frozen?_setCell _ _ _ _).trans hfy
            have gy22 : gy < W2.heap.size := by rw [hW2]; simpa using gy2
            rw [← hW2]
            clear hW2 w11 w12 w13 w14 w15 y1 y2 y3 hcz w1s
            clear hcx hfx hcy hfy HRX HRY HOW HY HZ HB
            have HRY := HRYn
            have HOW := HOWn
            have HY := HYn
            have HZ := HZn
            have HB := HBn
            clear HRYn HOWn HYn HZn HBn
            skip
            have w1s := HB.out.size
            obtain ⟨w11, w12, w13, w14, w15⟩ := HOW.out.c2
            obtain ⟨y1, y2⟩ := HY.out.c2
            have y3 := HY.out.1
            have hcz := (HB.out.cell (p := ⟨gb, ob2 + j, none⟩) hgb).trans hcb
            have sb : IntKind.i64.wrap (v1 + v2) = v1 + v2 := IntWalk.i64_in _ (by omega)
            go_wp2_with fail
            go_region
            all_goals (try clear sb)
            obtain ⟨W3, hW3⟩ : ∃ X, X = (W2.setCell ⟨gy, j, none⟩ (.int .i64 (v1 + v2))).drew := ⟨_, rfl⟩
            have HRY2 := Lib.hid (show K.Row W3 (w.heap.size + 1 + 1 + 1) 3 1 (some ⟨gy, 0, none⟩) k.length m1 ((M.addTo k k2 (j + 1)).map (Value.int .i64)) by rw [hW3, HNK.out]; exact (HRY.out.setInt j _).drew)
            have HRXn := Lib.hid (show K.Row W3 (w.heap.size + 1 + 1 + 1) 3 1 (some ⟨gx, 0, none⟩) l.length n1 ((M.addTo l l2 (j + 1)).map (Value.int .i64)) by rw [hW3]; exact (HRX2.out.setNe (p := ⟨gy, j, none⟩) (fun q hq => by simp [K.blk] at hq; subst hq; exact n1b) _).drew)
            have HOWn := Lib.hid (show K.Own W3 g [.slice (some ⟨gx, 0, none⟩) l.length n1, .slice (some ⟨gy, 0, none⟩) k.length m1] by rw [hW3]; exact (HOW.out.setOther (p := ⟨gy, j, none⟩) n2b _).drew)
            have HYn := Lib.hid (show K.Box W3 (w.heap.size + 1) [.slice (some ⟨ga, oa, none⟩) l2.length c2, .slice (some ⟨gb, ob2, none⟩) k2.length d2] by rw [hW3]; exact (HY.out.setOther (p := ⟨gy, j, none⟩) (by first | (simp; done) | (simp; omega)) _).drew)
            have HZn := Lib.hid (show K.Own W3 (w.heap.size + 1 + 1) [.slice none 0 0, .slice none 0 0] by rw [hW3]; exact (HZ.out.setOther (p := ⟨gy, j, none⟩) (by first | (simp; done) | (simp; omega)) _).drew)
            have HBn := Lib.hid (show Below w.heap.size w W3 by rw [hW3]; exact (HB.out.setCell (p := ⟨gy, j, none⟩) (by first | (simp; done) | (simp; omega)) _).drew)
            rw [← hW3]
            clear hW3 w11 w12 w13 w14 w15 y1 y2 y3 hcz w1s
            go_wp2_with fail
            go_roundw
            case rel => exact ⟨j + 1, by omega, by go_num, HRXn, HRY2, HOWn, HYn, HZn, HBn⟩
            case measure => have := HLL.out; simp [intOf]; omega
          · obtain rfl : j = l.length := by omega
            have hnl : ¬ ((l.length : Int) < (l2.length : Int)) := by have := HLL.out; omega
            have HAL2 := HRX.out
            have HAK2 := HRY.out
            rw [HAL.out] at HAL2
            rw [HAK.out] at HAK2
            have HRX := Lib.hid HAL2
            have HRY := Lib.hid HAK2
            clear HAL2 HAK2
            obtain ⟨w11, w12, w13, w14, w15⟩ := HOW.out.c2
            obtain ⟨y1, y2⟩ := HY.out.c2
            have y3 := HY.out.1
            go_wp2_with fail
            refine (HG.out _ n1 _ m1 _ HRX.out.rd HRY.out.rd).mono ?_
            rintro e w9 ⟨rfl, b9⟩
            clear w11 w12 w13 w14 w15 y1 y2 y3
            have hz0 := HB.out.size
            obtain ⟨w11, w12, w13, w14, w15⟩ := (HOW.out.below b9).c2
            obtain ⟨z1, z2, z3, z4, z5⟩ := (HZ.out.below b9).c2
            have bb := HB.out.trans (b9.mono HB.out.size)
            have hs9 := b9.size
            have rx1 := (HRX.out.below b9).more (lo' := w.heap.size) (by omega)
            have ry1 := (HRY.out.below b9).more (lo' := w.heap.size) (by omega)
            cases hgo : M.bOk (M.addL l l2) (M.addL k k2) with
            | false =>
              have HF := HNO.out hgo
              subst HF
              clear hgo
              go_wp2_with fail
              exact bodyPost_ret (v := .tuple #[.agg #[.slice none 0 0, .slice none 0 0], .bool false]) (by simp [results, Try.results34, go_sem, *]) rfl ⟨none, 0, none, 0, rfl, K.Row.nil _ _ _ _, K.Row.nil _ _ _ _, fun g h => by simp [K.blk] at h, by (repeat (first | exact Below.refl _ _ | assumption | (refine K.below_drewN ?_ _) | (refine Below.drew ?_) | (refine Below.alloc ?_ (by first | (simp; done) | (simp; omega) | omega) _) | (refine Below.setCell ?_ (by first | (simp; done) | (simp; omega) | omega) _)))⟩
            | true =>
              have HF := HYE.out hgo
              subst HF
              clear hgo
              go_wp2_with fail
              exact bodyPost_ret (v := .tuple #[.agg #[.slice (some ⟨gx, 0, none⟩) (M.addL l l2).length n1, .slice (some ⟨gy, 0, none⟩) (M.addL k k2).length m1], .bool true]) (by rw [HLN.out, HKN.out]; simp [results, Try.results34, go_sem, *]) rfl ⟨some ⟨gx, 0, none⟩, n1, some ⟨gy, 0, none⟩, m1, rfl, by rw [HLN.out]; exact (rx1.setNe (fun q hq => by simp [K.blk] at hq; subst hq; simp; omega) _).setNe (fun q hq => by simp [K.blk] at hq; subst hq; simp; omega) _, by rw [HKN.out]; exact (ry1.setNe (fun q hq => by simp [K.blk] at hq; subst hq; simp; omega) _).setNe (fun q hq => by simp [K.blk] at hq; subst hq; simp; omega) _, HAP.out, by (repeat (first | exact Below.refl _ _ | assumption | (refine K.below_drewN ?_ _) | (refine Below.drew ?_) | (refine Below.alloc ?_ (by first | (simp; done) | (simp; omega) | omega) _) | (refine Below.setCell ?_ (by first | (simp; done) | (simp; omega) | omega) _)))⟩
set_option maxRecDepth 100000 in
set_option maxHeartbeats 4000000 in
theorem s_join (A : Option Addr) (c : Nat) (l : List Int) (B : Option Addr) (d : Nat) (k : List Int) (A2 : Option Addr) (c2 : Nat) (l2 : List Int) (B2 : Option Addr) (d2 : Nat) (k2 : List Int) (w : World) (hl : l.length ≤ 1048576) (hk : k.length ≤ 1048576) (ha : K.Rd w 1 A l.length (l.map (Value.int .i64))) (hb : K.Rd w 1 B k.length (k.map (Value.int .i64))) (hl2 : l2.length ≤ 1048576) (hk2 : k2.length ≤ 1048576) (ha2 : K.Rd w 1 A2 l2.length (l2.map (Value.int .i64))) (hb2 : K.Rd w 1 B2 k2.length (k2.map (Value.int .i64))) :
    Calls Try.prog 33 #[.agg #[.slice A l.length c, .slice B k.length d], .agg #[.slice A2 l2.length c2, .slice B2 k2.length d2]] w (BoardH.RetBoardB w (M.joinB l k l2 k2).1.1 (M.joinB l k l2 k2).1.2 (M.joinB l k l2 k2).2) := by
  obtain ⟨o0, ho0⟩ : ∃ o : Obj, o = .cells #[.slice A l.length c, .slice B k.length d] 27 := ⟨_, rfl⟩
  obtain ⟨o1, ho1⟩ : ∃ o : Obj, o = .cells #[.slice A2 l2.length c2, .slice B2 k2.length d2] 27 := ⟨_, rfl⟩
  obtain ⟨o2, ho2⟩ : ∃ o : Obj, o = .cells #[.slice none 0 0, .slice none 0 0] 27 := ⟨_, rfl⟩
  have r := ((ha.alloc o0).alloc o1).alloc o2
  have t := ((hb.alloc o0).alloc o1).alloc o2
  have r2 := ((ha2.alloc o0).alloc o1).alloc o2
  have t2 := ((hb2.alloc o0).alloc o1).alloc o2
  have x : K.Box (((w.alloc o0).alloc o1).alloc o2) w.heap.size [.slice A l.length c, .slice B k.length d] := by have h := K.Box.new w #[.slice A l.length c, .slice B k.length d] 27; rw [ho0]; exact (h.alloc o1).alloc o2
  have y : K.Box (((w.alloc o0).alloc o1).alloc o2) (w.heap.size + 1) [.slice A2 l2.length c2, .slice B2 k2.length d2] := by have h := K.Box.new (w.alloc o0) #[.slice A2 l2.length c2, .slice B2 k2.length d2] 27; rw [World.size_alloc] at h; rw [ho1]; exact h.alloc o2
  have z : K.Own (((w.alloc o0).alloc o1).alloc o2) (w.heap.size + 1 + 1) [.slice none 0 0, .slice none 0 0] := by have h := K.Own.new ((w.alloc o0).alloc o1) #[.slice none 0 0, .slice none 0 0] 27; rw [World.size_alloc, World.size_alloc] at h; rw [ho2]; exact h
  have bb : Below w.heap.size w (((w.alloc o0).alloc o1).alloc o2) := by (repeat (first | exact Below.refl _ _ | assumption | (refine K.below_drewN ?_ _) | (refine Below.drew ?_) | (refine Below.alloc ?_ (by first | (simp; done) | (simp; omega) | omega) _) | (refine Below.setCell ?_ (by first | (simp; done) | (simp; omega) | omega) _)))
  subst ho0 ho1 ho2
  have HS := Lib.hid (fun w h h2 => BoardF.s_good A c l B d k w hl hk h h2)
  have HS2 := Lib.hid (fun w h h2 => BoardF.s_good A2 c2 l2 B2 d2 k2 w hl2 hk2 h h2)
  cases hok : M.bOk l k with
  | false =>
    rw [hok] at HS
    rw [M.joinB_no (by simp [hok])]
    clear hok
    go_enter Try.func33, Try.ntmps33
    have p0 := x.c2
    have pg := x.1
    have p1 := y.c2
    have ph := y.1
    go_wp2_with fail
    refine (HS.out _ r t).mono ?_
    rintro e w1 ⟨rfl, b1⟩
    clear p0 pg p1 ph
    replace r := r.below b1
    replace t := t.below b1
    replace r2 := r2.below b1
    replace t2 := t2.below b1
    replace x := x.below b1
    replace y := y.below b1
    replace z := z.below b1
    replace bb := bb.trans (b1.mono bb.size)
    clear b1
    obtain ⟨z1, z2, z3, z4, z5⟩ := z.c2
    clear z x y r t r2 t2
    go_wp2_with fail
    exact bodyPost_ret (v := .tuple #[.agg #[.slice none 0 0, .slice none 0 0], .bool false]) (by simp [results, Try.results33, go_sem, *]) rfl ⟨none, 0, none, 0, rfl, K.Row.nil _ _ _ _, K.Row.nil _ _ _ _, fun g h => by simp [K.blk] at h, by (repeat (first | exact Below.refl _ _ | assumption | (refine K.below_drewN ?_ _) | (refine Below.drew ?_) | (refine Below.alloc ?_ (by first | (simp; done) | (simp; omega) | omega) _) | (refine Below.setCell ?_ (by first | (simp; done) | (simp; omega) | omega) _)))⟩
  | true =>
    rw [hok] at HS
    cases hok2 : M.bOk l2 k2 with
    | false =>
      rw [hok2] at HS2
      rw [M.joinB_no (by simp [hok2])]
      clear hok hok2
      go_enter Try.func33, Try.ntmps33
      have p0 := x.c2
      have pg := x.1
      have p1 := y.c2
      have ph := y.1
      go_wp2_with fail
      refine (HS.out _ r t).mono ?_
      rintro e w1 ⟨rfl, b1⟩
      clear p0 pg p1 ph
      replace r := r.below b1
      replace t := t.below b1
      replace r2 := r2.below b1
      replace t2 := t2.below b1
      replace x := x.below b1
      replace y := y.below b1
      replace z := z.below b1
      replace bb := bb.trans (b1.mono bb.size)
      clear b1
      have p0 := x.c2
      have pg := x.1
      have p1 := y.c2
      have ph := y.1
      go_wp2_with fail
      refine (HS2.out _ r2 t2).mono ?_
      rintro e w2 ⟨rfl, b2⟩
      clear p0 pg p1 ph
      replace r := r.below b2
      replace t := t.below b2
      replace r2 := r2.below b2
      replace t2 := t2.below b2
      replace x := x.below b2
      replace y := y.below b2
      replace z := z.below b2
      replace bb := bb.trans (b2.mono bb.size)
      clear b2
      obtain ⟨z1, z2, z3, z4, z5⟩ := z.c2
      clear z x y r t r2 t2
      go_wp2_with fail
      exact bodyPost_ret (v := .tuple #[.agg #[.slice none 0 0, .slice none 0 0], .bool false]) (by simp [results, Try.results33, go_sem, *]) rfl ⟨none, 0, none, 0, rfl, K.Row.nil _ _ _ _, K.Row.nil _ _ _ _, fun g h => by simp [K.blk] at h, by (repeat (first | exact Below.refl _ _ | assumption | (refine K.below_drewN ?_ _) | (refine Below.drew ?_) | (refine Below.alloc ?_ (by first | (simp; done) | (simp; omega) | omega) _) | (refine Below.setCell ?_ (by first | (simp; done) | (simp; omega) | omega) _)))⟩
    | true =>
      rw [hok2] at HS2
      by_cases hln : l.length = l2.length
      rotate_left
      · rw [M.joinB_no (fun h => hln h.2.2.1)]
        have hd : (((l.length : Nat) : Int) != ((l2.length : Nat) : Int)) = true := by simp; omega
        clear hok hok2 hln
        go_enter Try.func33, Try.ntmps33
        have p0 := x.c2
        have pg := x.1
        have p1 := y.c2
        have ph := y.1
        go_wp2_with fail
        refine (HS.out _ r t).mono ?_
        rintro e w1 ⟨rfl, b1⟩
        clear p0 pg p1 ph
        replace r := r.below b1
        replace t := t.below b1
        replace r2 := r2.below b1
        replace t2 := t2.below b1
        replace x := x.below b1
        replace y := y.below b1
        replace z := z.below b1
        replace bb := bb.trans (b1.mono bb.size)
        clear b1
        have p0 := x.c2
        have pg := x.1
        have p1 := y.c2
        have ph := y.1
        go_wp2_with fail
        refine (HS2.out _ r2 t2).mono ?_
        rintro e w2 ⟨rfl, b2⟩
        clear p0 pg p1 ph
        replace r := r.below b2
        replace t := t.below b2
        replace r2 := r2.below b2
        replace t2 := t2.below b2
        replace x := x.below b2
        replace y := y.below b2
        replace z := z.below b2
        replace bb := bb.trans (b2.mono bb.size)
        clear b2
        obtain ⟨z1, z2, z3, z4, z5⟩ := z.c2
        have p0 := x.c2
        have pg := x.1
        have p1 := y.c2
        have ph := y.1
        clear z x y r t r2 t2
        go_wp2_with fail
        exact bodyPost_ret (v := .tuple #[.agg #[.slice none 0 0, .slice none 0 0], .bool false]) (by simp [results, Try.results33, go_sem, *]) rfl ⟨none, 0, none, 0, rfl, K.Row.nil _ _ _ _, K.Row.nil _ _ _ _, fun g h => by simp [K.blk] at h, by (repeat (first | exact Below.refl _ _ | assumption | (refine K.below_drewN ?_ _) | (refine Below.drew ?_) | (refine Below.alloc ?_ (by first | (simp; done) | (simp; omega) | omega) _) | (refine Below.setCell ?_ (by first | (simp; done) | (simp; omega) | omega) _)))⟩
      · have hd : (((l.length : Nat) : Int) != ((l2.length : Nat) : Int)) = false := by simp; omega
        obtain ⟨hl16, hkl, hlx, hkx⟩ := (M.bOk_iff l k).1 hok
        obtain ⟨_, hkl2, hlx2, hkx2⟩ := (M.bOk_iff l2 k2).1 hok2
        have hkk : k.length = k2.length := by omega
        have HG := Lib.hid (fun (X : Option Addr) (n1 : Nat) (Y : Option Addr) (m1 : Nat) (w : World) (h : K.Rd w 1 X (M.addL l l2).length ((M.addL l l2).map (Value.int .i64))) (h2 : K.Rd w 1 Y (M.addL k k2).length ((M.addL k k2).map (Value.int .i64))) => BoardF.s_good X n1 (M.addL l l2) Y m1 (M.addL k k2) w (by rw [M.addL_len l l2 hln]; exact hl) (by rw [M.addL_len k k2 hkk]; exact hk) h h2)
        rw [M.addL_len l l2 hln, M.addL_len k k2 hkk] at HG
        have HNO := Lib.hid (fun h : M.bOk (M.addL l l2) (M.addL k k2) = false => M.joinB_no (l := l) (k := k) (l2 := l2) (k2 := k2) (fun hh => by rw [hh.2.2.2] at h; cases h))
        have HYE := Lib.hid (fun h : M.bOk (M.addL l l2) (M.addL k k2) = true => M.joinB_yes (l := l) (k := k) (l2 := l2) (k2 := k2) ⟨hok, hok2, hln, h⟩)
        generalize M.joinB l k l2 k2 = RR at *
        have HAL := Lib.hid (M.addTo_all l l2 hln)
        have HAK := Lib.hid (show M.addTo k k2 l.length = M.addL k k2 by rw [← hkl]; exact M.addTo_all k k2 hkk)
        have HTL := Lib.hid (fun j hj => M.addTo_len l l2 hln j hj)
        have HTK := Lib.hid (fun j hj => M.addTo_len k k2 hkk j hj)
        have HSL := Lib.hid (fun j hj => M.addTo_succ l l2 hln j hj)
        have HSK := Lib.hid (fun j hj => M.addTo_succ k k2 hkk j hj)
        have HATL := Lib.hid (fun j hj hj2 => M.addTo_at l l2 hln j hj hj2)
        have HATK := Lib.hid (fun j hj hj2 => M.addTo_at k k2 hkk j hj hj2)
        have HLN := Lib.hid (M.addL_len l l2 hln)
        have HKN := Lib.hid (M.addL_len k k2 hkk)
        have HKL := Lib.hid hkl
        have HLL := Lib.hid hln
        have HKK := Lib.hid hkk
        clear hok hok2 hkl hkl2 hln hkk
        have HO := Lib.hid (fun w h h2 => BoardO.s_own A c l B d k w hl hk h h2)
        go_enter Try.func33, Try.ntmps33
        have p0 := x.c2
        have pg := x.1
        have p1 := y.c2
        have ph := y.1
        go_wp2_with fail
        refine (HS.out _ r t).mono ?_
        rintro e w1 ⟨rfl, b1⟩
        clear p0 pg p1 ph
        replace r := r.below b1
        replace t := t.below b1
        replace r2 := r2.below b1
        replace t2 := t2.below b1
        replace x := x.below b1
        replace y := y.below b1
        replace z := z.below b1
        replace bb := bb.trans (b1.mono bb.size)
        clear b1
        have p0 := x.c2
        have pg := x.1
        have p1 := y.c2
        have ph := y.1
        go_wp2_with fail
        refine (HS2.out _ r2 t2).mono ?_
        rintro e w2 ⟨rfl, b2⟩
        clear p0 pg p1 ph
        replace r := r.below b2
        replace t := t.below b2
        replace r2 := r2.below b2
        replace t2 := t2.below b2
        replace x := x.below b2
        replace y := y.below b2
        replace z := z.below b2
        replace bb := bb.trans (b2.mono bb.size)
        clear b2
        have p0 := x.c2
        have pg := x.1
        have p1 := y.c2
        have ph := y.1
        have hz9 := z.1.1
        go_wp2_with fail
        refine (HO.out _ r t).mono ?_
        rintro e w3 ⟨X, n1, Y, m1, rfl, row, row2, apxy, b3⟩
        clear p0 pg p1 ph
        have hW0 := bb.size
        replace x := x.below b3
        replace y := y.below b3
        replace z := z.below b3
        replace bb := bb.trans (b3.mono bb.size)
        clear r t r2 t2
        have hlX := row.lt
        have hlY := row2.lt
        obtain ⟨gx, rfl, gx1, gx2, hcx0, hfx0⟩ := row.int (k := 0) (by omega)
        obtain ⟨gy, rfl, gy1, gy2, hcy0, hfy0⟩ := row2.int (k := 0) (by have := HKL.out; omega)
        clear hcx0 hfx0 hcy0 hfy0 hlX hlY b3
        obtain ⟨ob, hob⟩ : ∃ o : Obj, o = (.cells #[.slice (some ⟨gx, 0, none⟩) l.length n1, .slice (some ⟨gy, 0, none⟩) k.length m1] 27) := ⟨_, rfl⟩
        have own : K.Own (w3.alloc ob) w3.heap.size [.slice (some ⟨gx, 0, none⟩) l.length n1, .slice (some ⟨gy, 0, none⟩) k.length m1] := by rw [hob]; exact K.Own.new _ _ _
        have rowx := (row.more (lo' := w.heap.size + 1 + 1 + 1) (by omega)).alloc ob
        have rowy := (row2.more (lo' := w.heap.size + 1 + 1 + 1) (by omega)).alloc ob
        replace x := x.alloc ob
        replace y := y.alloc ob
        replace z := z.alloc ob
        replace bb := bb.alloc bb.size ob
        subst hob
        have hg3 : w2.heap.size ≤ w3.heap.size := by omega
        have nbx : K.blk (some ⟨gx, 0, none⟩) ≠ some w3.heap.size := fun h => by simp [K.blk] at h; omega
        have nby : K.blk (some ⟨gy, 0, none⟩) ≠ some w3.heap.size := fun h => by simp [K.blk] at h; omega
        obtain ⟨wq, hwq⟩ : ∃ wq, wq = w3.alloc (.cells #[.slice (some ⟨gx, 0, none⟩) l.length n1, .slice (some ⟨gy, 0, none⟩) k.length m1] 27) := ⟨_, rfl⟩
        clear row row2
        go_wp2_with fail
        rw [← hwq] at own rowx rowy x y z bb
        generalize w3.heap.size = g at *
        have n1a : ¬ gx = gy := fun e => apxy gx rfl (by rw [e]; rfl)
        have n1b : ¬ gy = gx := fun e => n1a e.symm
        have n2a : ¬ gx = g := fun e => nbx (by rw [← e]; rfl)
        have n2b : ¬ gy = g := fun e => nby (by rw [← e]; rfl)
        have HAP := Lib.hid apxy
        clear apxy nbx nby
        have hgg : w.heap.size + 1 + 1 + 1 ≤ g := by omega
        have hgx : w.heap.size + 1 + 1 + 1 ≤ gx := by omega
        have hgy : w.heap.size + 1 + 1 + 1 ≤ gy := by omega
        clear x
        go_loopw [7] (fun s wr => ∃ j : Nat, j ≤ l.length ∧ s = .int .i64 (j : Int) ∧ Hid (K.Row wr (w.heap.size + 1 + 1 + 1) 3 1 (some ⟨gx, 0, none⟩) l.length n1 ((M.addTo l l2 j).map (Value.int .i64))) ∧ Hid (K.Row wr (w.heap.size + 1 + 1 + 1) 3 1 (some ⟨gy, 0, none⟩) k.length m1 ((M.addTo k k2 j).map (Value.int .i64))) ∧ Hid (K.Own wr g [.slice (some ⟨gx, 0, none⟩) l.length n1, .slice (some ⟨gy, 0, none⟩) k.length m1]) ∧ Hid (K.Box wr (w.heap.size + 1) [.slice A2 l2.length c2, .slice B2 k2.length d2]) ∧ Hid (K.Own wr (w.heap.size + 1 + 1) [.slice none 0 0, .slice none 0 0]) ∧ Hid (Below w.heap.size w wr)) (fun s _ => l2.length - (intOf s).toNat)
        case atStart => subst hwq; exact ⟨0, Nat.zero_le _, rfl, Lib.hid (by rw [M.addTo_zero]; exact rowx), Lib.hid (by rw [M.addTo_zero]; exact rowy), Lib.hid own, Lib.hid y, Lib.hid z, Lib.hid bb⟩
        case round =>
          clear rowx rowy own y z bb hwq
          obtain ⟨j, hj, rfl, HRX, HRY, HOW, HY, HZ, HB⟩ := hrel
          by_cases hlt : j < l.length
          · have hj2 : j < l2.length := by have := HLL.out; omega
            have hjk : j < k.length := by have := HKL.out; omega
            have hjk2 : j < k2.length := by have := HKK.out; omega
            have h1 : (j : Int) < (l.length : Int) := by omega
            have h2 : (0 : Int) ≤ (j : Int) := by omega
            have h3 : (j : Int) < (l2.length : Int) := by omega
            have h4 : (j : Int) < (k.length : Int) := by omega
            have h5 : (j : Int) < (k2.length : Int) := by omega
            have hTL : (M.addTo l l2 j).length = l.length := HTL.out j (by omega)
            have hTK : (M.addTo k k2 j).length = k.length := HTK.out j (by omega)
            have eL := HATL.out j hlt (by omega)
            have eK := HATK.out j hjk (by omega)
            have HNL := Lib.hid (HSL.out j hlt hj2)
            have HNK := Lib.hid (HSK.out j hjk hjk2)
            obtain ⟨a1, a2⟩ := hlx l[j] (List.getElem_mem _)
            obtain ⟨a3, a4⟩ := hlx2 l2[j] (List.getElem_mem _)
            obtain ⟨b1, b2⟩ := hkx k[j] (List.getElem_mem _)
            obtain ⟨b3, b4⟩ := hkx2 k2[j] (List.getElem_mem _)
            obtain ⟨ga, oa, hA2, hga, hca⟩ := ha2.intB hj2
            obtain ⟨gb, ob2, hB2, hgb, hcb⟩ := hb2.intB hjk2
            subst hA2 hB2
            obtain ⟨gx9, hx9, _, gx2, hcx, hfx⟩ := rowintN HRX.out hTL hlt
            injection hx9 with hx9
            injection hx9 with hx9
            subst hx9
            obtain ⟨gy9, hy9, _, gy2, hcy, hfy⟩ := rowintN HRY.out hTK hjk
            injection hy9 with hy9
            injection hy9 with hy9
            subst hy9
            rw [eL] at hcx
            rw [eK] at hcy
            generalize l[j] = u1 at *
            generalize l2[j] = u2 at *
            generalize k[j] = v1 at *
            generalize k2[j] = v2 at *
            clear eL eK hTL hTK
            have w1s := HB.out.size
            obtain ⟨w11, w12, w13, w14, w15⟩ := HOW.out.c2
            obtain ⟨y1, y2⟩ := HY.out.c2
            have y3 := HY.out.1
            have hcz := (HB.out.cell (p := ⟨ga, oa + j, none⟩) hga).trans hca
            have sb : IntKind.i64.wrap (u1 + u2) = u1 + u2 := IntWalk.i64_in _ (by omega)
            go_wp2_with fail
            go_region
            all_goals (try clear sb)
            obtain ⟨W2, hW2⟩ : ∃ X, X = (wr.setCell ⟨gx, j, none⟩ (.int .i64 (u1 + u2))).drew := ⟨_, rfl⟩
            have HRX2 := Lib.hid (show K.Row W2 (w.heap.size + 1 + 1 + 1) 3 1 (some ⟨gx, 0, none⟩) l.length n1 ((M.addTo l l2 (j + 1)).map (Value.int .i64)) by rw [hW2, HNL.out]; exact (HRX.out.setInt j _).drew)
            have HRYn := Lib.hid (show K.Row W2 (w.heap.size + 1 + 1 + 1) 3 1 (some ⟨gy, 0, none⟩) k.length m1 ((M.addTo k k2 j).map (Value.int .i64)) by rw [hW2]; exact (HRY.out.setNe (p := ⟨gx, j, none⟩) (fun q hq => by simp [K.blk] at hq; subst hq; exact n1a) _).drew)
            have HOWn := Lib.hid (show K.Own W2 g [.slice (some ⟨gx, 0, none⟩) l.length n1, .slice (some ⟨gy, 0, none⟩) k.length m1] by rw [hW2]; exact (HOW.out.setOther (p := ⟨gx, j, none⟩) n2a _).drew)
            have HYn := Lib.hid (show K.Box W2 (w.heap.size + 1) [.slice (some ⟨ga, oa, none⟩) l2.length c2, .slice (some ⟨gb, ob2, none⟩) k2.length d2] by rw [hW2]; exact (HY.out.setOther (p := ⟨gx, j, none⟩) (by first | (simp; done) | (simp; omega)) _).drew)
            have HZn := Lib.hid (show K.Own W2 (w.heap.size + 1 + 1) [.slice none 0 0, .slice none 0 0] by rw [hW2]; exact (HZ.out.setOther (p := ⟨gx, j, none⟩) (by first | (simp; done) | (simp; omega)) _).drew)
            have HBn := Lib.hid (show Below w.heap.size w W2 by rw [hW2]; exact (HB.out.setCell (p := ⟨gx, j, none⟩) (by first | (simp; done) | (simp; omega)) _).drew)
            have hcy2 : W2.cell? ⟨gy, j, none⟩ = some (.int .i64 v1) := by rw [hW2]; exact (World.cell?_setCell_other _ _ _ _ (by first | (simp; done) | (simp; omega))).trans hcy
            have hfy2 : W2.frozen? ⟨gy, j, none⟩ = false := by rw [hW2]; exact (World.frozen?_setCell _ _ _ _).trans hfy
            have gy22 : gy < W2.heap.size := by rw [hW2]; simpa using gy2
            rw [← hW2]
            clear hW2 w11 w12 w13 w14 w15 y1 y2 y3 hcz w1s
            clear hcx hfx hcy hfy HRX HRY HOW HY HZ HB
            have HRY := HRYn
            have HOW := HOWn
            have HY := HYn
            have HZ := HZn
            have HB := HBn
            clear HRYn HOWn HYn HZn HBn
            skip
            have w1s := HB.out.size
            obtain ⟨w11, w12, w13, w14, w15⟩ := HOW.out.c2
            obtain ⟨y1, y2⟩ := HY.out.c2
            have y3 := HY.out.1
            have hcz := (HB.out.cell (p := ⟨gb, ob2 + j, none⟩) hgb).trans hcb
            have sb : IntKind.i64.wrap (v1 + v2) = v1 + v2 := IntWalk.i64_in _ (by omega)
            go_wp2_with fail
            go_region
            all_goals (try clear sb)
            obtain ⟨W3, hW3⟩ : ∃ X, X = (W2.setCell ⟨gy, j, none⟩ (.int .i64 (v1 + v2))).drew := ⟨_, rfl⟩
            have HRY2 := Lib.hid (show K.Row W3 (w.heap.size + 1 + 1 + 1) 3 1 (some ⟨gy, 0, none⟩) k.length m1 ((M.addTo k k2 (j + 1)).map (Value.int .i64)) by rw [hW3, HNK.out]; exact (HRY.out.setInt j _).drew)
            have HRXn := Lib.hid (show K.Row W3 (w.heap.size + 1 + 1 + 1) 3 1 (some ⟨gx, 0, none⟩) l.length n1 ((M.addTo l l2 (j + 1)).map (Value.int .i64)) by rw [hW3]; exact (HRX2.out.setNe (p := ⟨gy, j, none⟩) (fun q hq => by simp [K.blk] at hq; subst hq; exact n1b) _).drew)
            have HOWn := Lib.hid (show K.Own W3 g [.slice (some ⟨gx, 0, none⟩) l.length n1, .slice (some ⟨gy, 0, none⟩) k.length m1] by rw [hW3]; exact (HOW.out.setOther (p := ⟨gy, j, none⟩) n2b _).drew)
            have HYn := Lib.hid (show K.Box W3 (w.heap.size + 1) [.slice (some ⟨ga, oa, none⟩) l2.length c2, .slice (some ⟨gb, ob2, none⟩) k2.length d2] by rw [hW3]; exact (HY.out.setOther (p := ⟨gy, j, none⟩) (by first | (simp; done) | (simp; omega)) _).drew)
            have HZn := Lib.hid (show K.Own W3 (w.heap.size + 1 + 1) [.slice none 0 0, .slice none 0 0] by rw [hW3]; exact (HZ.out.setOther (p := ⟨gy, j, none⟩) (by first | (simp; done) | (simp; omega)) _).drew)
            have HBn := Lib.hid (show Below w.heap.size w W3 by rw [hW3]; exact (HB.out.setCell (p := ⟨gy, j, none⟩) (by first | (simp; done) | (simp; omega)) _).drew)
            rw [← hW3]
            clear hW3 w11 w12 w13 w14 w15 y1 y2 y3 hcz w1s
            go_wp2_with fail
            go_roundw
            case rel => exact ⟨j + 1, by omega, by go_num, HRXn, HRY2, HOWn, HYn, HZn, HBn⟩
            case measure => have := HLL.out; simp [intOf]; omega
          · obtain rfl : j = l.length := by omega
            have hnl : ¬ ((l.length : Int) < (l2.length : Int)) := by have := HLL.out; omega
            have HAL2 := HRX.out
            have HAK2 := HRY.out
            rw [HAL.out] at HAL2
            rw [HAK.out] at HAK2
            have HRX := Lib.hid HAL2
            have HRY := Lib.hid HAK2
            clear HAL2 HAK2
            obtain ⟨w11, w12, w13, w14, w15⟩ := HOW.out.c2
            obtain ⟨y1, y2⟩ := HY.out.c2
            have y3 := HY.out.1
            go_wp2_with fail
            refine (HG.out _ n1 _ m1 _ HRX.out.rd HRY.out.rd).mono ?_
            rintro e w9 ⟨rfl, b9⟩
            clear w11 w12 w13 w14 w15 y1 y2 y3
            have hz0 := HB.out.size
            obtain ⟨w11, w12, w13, w14, w15⟩ := (HOW.out.below b9).c2
            obtain ⟨z1, z2, z3, z4, z5⟩ := (HZ.out.below b9).c2
            have bb := HB.out.trans (b9.mono HB.out.size)
            have hs9 := b9.size
            have rx1 := (HRX.out.below b9).more (lo' := w.heap.size) (by omega)
            have ry1 := (HRY.out.below b9).more (lo' := w.heap.size) (by omega)
            cases hgo : M.bOk (M.addL l l2) (M.addL k k2) with
            | false =>
              have HF := HNO.out hgo
              subst HF
              clear hgo
              go_wp2_with fail
              exact bodyPost_ret (v := .tuple #[.agg #[.slice none 0 0, .slice none 0 0], .bool false]) (by simp [results, Try.results33, go_sem, *]) rfl ⟨none, 0, none, 0, rfl, K.Row.nil _ _ _ _, K.Row.nil _ _ _ _, fun g h => by simp [K.blk] at h, by (repeat (first | exact Below.refl _ _ | assumption | (refine K.below_drewN ?_ _) | (refine Below.drew ?_) | (refine Below.alloc ?_ (by first | (simp; done) | (simp; omega) | omega) _) | (refine Below.setCell ?_ (by first | (simp; done) | (simp; omega) | omega) _)))⟩
            | true =>
              have HF := HYE.out hgo
              subst HF
              clear hgo
              go_wp2_with fail
              exact bodyPost_ret (v := .tuple #[.agg #[.slice (some ⟨gx, 0, none⟩) (M.addL l l2).length n1, .slice (some ⟨gy, 0, none⟩) (M.addL k k2).length m1], .bool true]) (by rw [HLN.out, HKN.out]; simp [results, Try.results33, go_sem, *]) rfl ⟨some ⟨gx, 0, none⟩, n1, some ⟨gy, 0, none⟩, m1, rfl, by rw [HLN.out]; exact (rx1.setNe (fun q hq => by simp [K.blk] at hq; subst hq; simp; omega) _).setNe (fun q hq => by simp [K.blk] at hq; subst hq; simp; omega) _, by rw [HKN.out]; exact (ry1.setNe (fun q hq => by simp [K.blk] at hq; subst hq; simp; omega) _).setNe (fun q hq => by simp [K.blk] at hq; subst hq; simp; omega) _, HAP.out, by (repeat (first | exact Below.refl _ _ | assumption | (refine K.below_drewN ?_ _) | (refine Below.drew ?_) | (refine Below.alloc ?_ (by first | (simp; done) | (simp; omega) | omega) _) | (refine Below.setCell ?_ (by first | (simp; done) | (simp; omega) | omega) _)))⟩
end Go.Proofs.Ytmgegacgjppdbaa.BoardJ
