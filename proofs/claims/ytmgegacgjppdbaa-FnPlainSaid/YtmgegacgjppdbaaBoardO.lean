/-
  Walks: copies of boards, counters moved (printed by gen_bops.py).
-/
import Derived.Test.YtmgegacgjppdbaaBoardS
import Derived.Test.YtmgegacgjppdbaaPlainM
import Derived.Deep.DeepCutAuto
import Derived.Deep.RegionHeld3
import Derived.BigRegion
set_option linter.unusedVariables false
namespace Go.Proofs.Ytmgegacgjppdbaa.BoardO
open Go.RowKit
set_option maxHeartbeats 400000 in
theorem i_copy (A : Option Addr) (c : Nat) (l : List Int) (w : World) (hl : l.length ≤ 1048576) (ha : K.Rd w 1 A l.length (l.map (Value.int .i64))) :
    Calls Try.prog 73 #[.slice A l.length c] w (K.RetRow w 3 1 l.length (l.map (Value.int .i64))) := by
  obtain ⟨i0, hi0, hz0, hz1, hz2⟩ := info_parts SlInt.info
  have e0 : K.Row (w.alloc (.cells #[] 3)) w.heap.size 3 1 (some ⟨w.heap.size, 0, none⟩) 0 0 [] := World.ownsRow_made w #[] 0 (Nat.le_refl _) (Nat.zero_le _) rfl
  have b0 : Below w.heap.size w (w.alloc (.cells #[] 3)) := (Below.refl _ _).alloc (Nat.le_refl _) _
  have r0 := ha.below b0
  go_enter Try.func73, Try.ntmps73
  go_wp2_with (at_builtin; refine K.appendN rfl (.tmp 3) (.tmp 4) _ rfl w.heap.size _ i0 _ 1 8 Try.underlying22 hi0 hz0 hz1 hz2 rfl (by omega) (some ⟨w.heap.size, 0, none⟩) 0 0 [] (by simp [go_sem]) e0 A l.length c _ rfl r0 (by intro u hu; obtain ⟨x, _, rfl⟩ := List.mem_map.1 hu; rfl) (by simp only [maxLen]; omega) (by omega) (by simp) ?_; intro A' c' w2 hrow hb _ _)
  go_ret
  refine ⟨A', c', by simp, by simpa using hrow, b0.trans hb⟩
set_option maxHeartbeats 400000 in
theorem s_copy (A : Option Addr) (c : Nat) (l : List Int) (w : World) (hl : l.length ≤ 1048576) (ha : K.Rd w 1 A l.length (l.map (Value.int .i64))) :
    Calls Try.prog 85 #[.slice A l.length c] w (K.RetRow w 3 1 l.length (l.map (Value.int .i64))) := by
  obtain ⟨i0, hi0, hz0, hz1, hz2⟩ := info_parts SlInt.info
  have e0 : K.Row (w.alloc (.cells #[] 3)) w.heap.size 3 1 (some ⟨w.heap.size, 0, none⟩) 0 0 [] := World.ownsRow_made w #[] 0 (Nat.le_refl _) (Nat.zero_le _) rfl
  have b0 : Below w.heap.size w (w.alloc (.cells #[] 3)) := (Below.refl _ _).alloc (Nat.le_refl _) _
  have r0 := ha.below b0
  go_enter Try.func85, Try.ntmps85
  go_wp2_with (at_builtin; refine K.appendN rfl (.tmp 3) (.tmp 4) _ rfl w.heap.size _ i0 _ 1 8 Try.underlying22 hi0 hz0 hz1 hz2 rfl (by omega) (some ⟨w.heap.size, 0, none⟩) 0 0 [] (by simp [go_sem]) e0 A l.length c _ rfl r0 (by intro u hu; obtain ⟨x, _, rfl⟩ := List.mem_map.1 hu; rfl) (by simp only [maxLen]; omega) (by omega) (by simp) ?_; intro A' c' w2 hrow hb _ _)
  go_ret
  refine ⟨A', c', by simp, by simpa using hrow, b0.trans hb⟩
set_option maxHeartbeats 1000000 in
theorem s_own (A : Option Addr) (c : Nat) (l : List Int) (B : Option Addr) (d : Nat) (k : List Int) (w : World) (hl : l.length ≤ 1048576) (hk : k.length ≤ 1048576) (ha : K.Rd w 1 A l.length (l.map (Value.int .i64))) (hb : K.Rd w 1 B k.length (k.map (Value.int .i64))) :
    Calls Try.prog 72 #[.agg #[.slice A l.length c, .slice B k.length d]] w (BoardH.RetBoard w l k) := by
  obtain ⟨o, ho⟩ : ∃ o : Obj, o = .cells #[.slice A l.length c, .slice B k.length d] 27 := ⟨_, rfl⟩
  obtain ⟨o2, ho2⟩ : ∃ o : Obj, o = .cells #[.slice none 0 0, .slice none 0 0] 27 := ⟨_, rfl⟩
  have r := (ha.alloc o).alloc o2
  have t := (hb.alloc o).alloc o2
  have x : K.Box ((w.alloc o).alloc o2) w.heap.size [.slice A l.length c, .slice B k.length d] := by rw [ho]; exact (K.Box.new w #[.slice A l.length c, .slice B k.length d] 27).alloc _
  have z : K.Own ((w.alloc o).alloc o2) (w.heap.size + 1) [.slice none 0 0, .slice none 0 0] := by have h := K.Own.new (w.alloc o) #[.slice none 0 0, .slice none 0 0] 27; rw [World.size_alloc] at h; rw [ho2]; exact h
  have bb : Below w.heap.size w ((w.alloc o).alloc o2) := by (repeat (first | exact Below.refl _ _ | assumption | (refine K.below_drewN ?_ _) | (refine Below.drew ?_) | (refine Below.alloc ?_ (by first | (simp; done) | (simp; omega) | omega) _) | (refine Below.setCell ?_ (by first | (simp; done) | (simp; omega) | omega) _)))
  subst ho ho2
  go_enter Try.func72, Try.ntmps72
  have p0 := x.c2
  go_wp2_with fail
  have BB := Lib.hid bb
  clear bb
  go_region_held3 (fun w' => w'.cell? ⟨w.heap.size, 0, none⟩ = some (.slice A l.length c) ∧ w'.cell? ⟨w.heap.size, 1, none⟩ = some (.slice B k.length d))
    (((try dsimp only); refine ⟨(by (refine K.Box.at_ (vs := [.slice A l.length c, .slice B k.length d]) (j := 0) ?_ rfl; (repeat (first | with_reducible assumption | (with_reducible refine K.Box.alloc ?_ _) | (with_reducible refine K.Box.drew ?_) | (with_reducible refine K.Box.setOther ?_ (by simp <;> omega) _) | (with_reducible refine K.Box.below ?_ (by with_reducible assumption)))))), (by (refine K.Box.at_ (vs := [.slice A l.length c, .slice B k.length d]) (j := 1) ?_ rfl; (repeat (first | with_reducible assumption | (with_reducible refine K.Box.alloc ?_ _) | (with_reducible refine K.Box.drew ?_) | (with_reducible refine K.Box.setOther ?_ (by simp <;> omega) _) | (with_reducible refine K.Box.below ?_ (by with_reducible assumption))))))⟩))
    (first | (go_at_call 85; ((with_reducible refine (s_copy A c l _ hl (by (repeat (first | with_reducible assumption | (with_reducible refine K.Rd.alloc ?_ _) | (with_reducible refine K.Rd.drew ?_) | (with_reducible refine K.Rd.below ?_ (by with_reducible assumption)))))).mono ?_)); rintro e w1 ⟨X, n1, rfl, row, b1⟩; have hlt := row.lt; (try simp at hlt); have rw0 := row.more (lo' := w.heap.size) (by simp <;> omega); have s1 := b1.size; (try simp at s1); have bb1 := Lib.hid (BB.out.drew.trans (b1.mono (by have hq := BB.out.size; simp <;> omega)))) | (go_at_call 85; ((with_reducible refine (s_copy B d k _ hk (by (repeat (first | with_reducible assumption | (with_reducible refine K.Rd.alloc ?_ _) | (with_reducible refine K.Rd.drew ?_) | (with_reducible refine K.Rd.below ?_ (by with_reducible assumption)))))).mono ?_)); rintro e w2 ⟨Y, m1, rfl, row2, b2⟩; have hlu := row2.lt; (try simp at hlu); have rw1 := row2.more (lo' := w.heap.size) (by have hq := bb1.out.size; simp <;> omega); have bb2 := Lib.hid (bb1.out.trans (b2.mono (by have hq := bb1.out.size; simp <;> omega))); have rwb := rw0.below b2; obtain ⟨z1, z2, z3, z4, z5⟩ := (by (repeat (first | with_reducible assumption | (with_reducible refine K.Own.alloc ?_ _) | (with_reducible refine K.Own.drew ?_) | (with_reducible refine K.Own.setOther ?_ (by simp <;> omega) _) | (with_reducible refine K.Own.below ?_ (by with_reducible assumption)))) : K.Own w2 (w.heap.size + 1) [.slice none 0 0, .slice none 0 0]).c2))
  all_goals have h0 := BB.out.size
  all_goals have h1 := bb1.out.size
  all_goals have h2 := bb2.out.size
  all_goals have bbz := bb2.out
  all_goals go_wp2_with fail
  all_goals exact bodyPost_ret (v := .agg #[.slice X l.length n1, .slice Y k.length m1]) (by simp [results, Try.results72, go_sem, *]) rfl ⟨X, n1, Y, m1, rfl, by (repeat (first | with_reducible assumption | (with_reducible refine K.Row.setNe ?_ (fun g hg => by have hq := hlt g hg; simp at hq ⊢; omega) _) | (with_reducible refine K.Row.alloc ?_ _) | (with_reducible refine K.Row.drew ?_))), by (repeat (first | with_reducible assumption | (with_reducible refine K.Row.setNe ?_ (fun g hg => by have hq := hlu g hg; simp at hq ⊢; omega) _) | (with_reducible refine K.Row.alloc ?_ _) | (with_reducible refine K.Row.drew ?_))), fun q h1 h2 => by have e1 := hlt q h1; have e2 := hlu q h2; omega, by (repeat (first | exact Below.refl _ _ | assumption | (refine K.below_drewN ?_ _) | (refine Below.drew ?_) | (refine Below.alloc ?_ (by first | (simp; done) | (simp; omega) | omega) _) | (refine Below.setCell ?_ (by first | (simp; done) | (simp; omega) | omega) _)))⟩
  --@end
set_option maxRecDepth 100000 in
set_option maxHeartbeats 2000000 in
theorem i_changed (A : Option Addr) (c : Nat) (l : List Int) (B : Option Addr) (d : Nat) (k : List Int) (line : Bool) (a b u : Int) (w : World) (hl : l.length ≤ 1048576) (hok : M.bOk l k = true) (hb0 : -1000 ≤ b ∧ b ≤ 1000) (hu0 : -1000 ≤ u ∧ u ≤ 1000) (ha : K.Rd w 1 A l.length (l.map (Value.int .i64))) (hb : K.Rd w 1 B k.length (k.map (Value.int .i64))) :
    Calls Try.prog 76 #[.agg #[.slice A l.length c, .slice B k.length d], .bool line, .int .i64 a, .int .i64 b, .int .i64 u] w (BoardH.RetBoardB w (M.changedB l k line a b u).1.1 (M.changedB l k line a b u).1.2 (M.changedB l k line a b u).2) := by
  obtain ⟨R, hR⟩ : ∃ R, R = M.changedB l k line a b u := ⟨_, rfl⟩
  rw [← hR]
  have HR0 := Lib.hid hR
  clear hR
  obtain ⟨⟨hl1, hl6⟩, hkl, hlx, hkx⟩ := (M.bOk_iff l k).1 hok
  have hk : k.length ≤ 1048576 := by omega
  have hkl1 : k.length ≤ l.length := by omega
  have hkl2 : l.length ≤ k.length := by omega
  have HOK := Lib.hid hok
  clear hok hkl
  obtain ⟨o, ho⟩ : ∃ o : Obj, o = .cells #[.slice A l.length c, .slice B k.length d] 27 := ⟨_, rfl⟩
  obtain ⟨o2, ho2⟩ : ∃ o : Obj, o = .cells #[.slice none 0 0, .slice none 0 0] 27 := ⟨_, rfl⟩
  have r := (ha.alloc o).alloc o2
  have t := (hb.alloc o).alloc o2
  have x : K.Box ((w.alloc o).alloc o2) w.heap.size [.slice A l.length c, .slice B k.length d] := by rw [ho]; exact (K.Box.new w #[.slice A l.length c, .slice B k.length d] 27).alloc _
  have z : K.Own ((w.alloc o).alloc o2) (w.heap.size + 1) [.slice none 0 0, .slice none 0 0] := by have h := K.Own.new (w.alloc o) #[.slice none 0 0, .slice none 0 0] 27; rw [World.size_alloc] at h; rw [ho2]; exact h
  have bb : Below w.heap.size w ((w.alloc o).alloc o2) := by (repeat (first | exact Below.refl _ _ | assumption | (refine K.below_drewN ?_ _) | (refine Below.drew ?_) | (refine Below.alloc ?_ (by first | (simp; done) | (simp; omega) | omega) _) | (refine Below.setCell ?_ (by first | (simp; done) | (simp; omega) | omega) _)))
  subst ho ho2
  obtain ⟨W, hW⟩ : ∃ W, W = ((w.alloc (.cells #[.slice A l.length c, .slice B k.length d] 27)).alloc (.cells #[.slice none 0 0, .slice none 0 0] 27)) := ⟨_, rfl⟩
  go_enter Try.func76, Try.ntmps76
  go_upto_region 1 with fail
  rw [← hW] at r t x z bb ⊢
  clear hW
  go_cut [12] (fun sb wx => ∃ (X : Option Addr) (n1 : Nat) (Y : Option Addr) (m1 g : Nat), sb = .pointer (some ⟨g, 0, none⟩) ∧ K.Own wx g [.slice X l.length n1, .slice Y k.length m1] ∧ K.Row wx W.heap.size 3 1 X l.length n1 (l.map (Value.int .i64)) ∧ K.Row wx W.heap.size 3 1 Y k.length m1 (k.map (Value.int .i64)) ∧ (∀ q, K.blk X = some q → K.blk Y ≠ some q) ∧ K.blk X ≠ some g ∧ K.blk Y ≠ some g ∧ W.heap.size ≤ g ∧ Below W.heap.size W wx)
  case first =>
    have p0 := x.c2
    have pg := x.1
    have BB := Lib.hid (Below.refl W.heap.size W)
    go_region_held3 (fun w' => w'.cell? ⟨w.heap.size, 0, none⟩ = some (.slice A l.length c) ∧ w'.cell? ⟨w.heap.size, 1, none⟩ = some (.slice B k.length d))
      (((try dsimp only); refine ⟨(by (refine K.Box.at_ (vs := [.slice A l.length c, .slice B k.length d]) (j := 0) ?_ rfl; (repeat (first | with_reducible assumption | (with_reducible refine K.Box.alloc ?_ _) | (with_reducible refine K.Box.drew ?_) | (with_reducible refine K.Box.setOther ?_ (by simp <;> omega) _) | (with_reducible refine K.Box.below ?_ (by with_reducible assumption)))))), (by (refine K.Box.at_ (vs := [.slice A l.length c, .slice B k.length d]) (j := 1) ?_ rfl; (repeat (first | with_reducible assumption | (with_reducible refine K.Box.alloc ?_ _) | (with_reducible refine K.Box.drew ?_) | (with_reducible refine K.Box.setOther ?_ (by simp <;> omega) _) | (with_reducible refine K.Box.below ?_ (by with_reducible assumption))))))⟩))
      (first | (go_at_call 73; first | (((with_reducible refine (i_copy A c l (W.alloc (.cells #[.slice none 0 0, .slice none 0 0] 27)).drew hl (by (repeat (first | with_reducible assumption | (with_reducible refine K.Rd.alloc ?_ _) | (with_reducible refine K.Rd.drew ?_) | (with_reducible refine K.Rd.below ?_ (by with_reducible assumption)))))).mono ?_)); rintro e wv1 ⟨X, n1, rfl, row, b1⟩; have ow := (K.Own.new W #[.slice none 0 0, .slice none 0 0] 27).drew.below b1; obtain ⟨cw, cw1, fw, fw1, lw⟩ := ow.c2; have bb1 := Lib.hid (((BB.out.alloc BB.out.size (.cells #[.slice none 0 0, .slice none 0 0] 27)).drew).trans (b1.mono (by have hq := BB.out.size; simp <;> omega))); have s1 := b1.size; (try simp at s1); have hlt := row.lt; (try simp at hlt); have rw0 := row.more (lo' := W.heap.size) (by have hq := BB.out.size; simp <;> omega)) | (((with_reducible refine (i_copy A c l _ hl (by (repeat (first | with_reducible assumption | (with_reducible refine K.Rd.alloc ?_ _) | (with_reducible refine K.Rd.drew ?_) | (with_reducible refine K.Rd.below ?_ (by with_reducible assumption)))))).mono ?_)); rintro e wv1 ⟨X, n1, rfl, row, b1⟩; (try (replace ow := ow.below b1; obtain ⟨cw, cw1, fw, fw1, lw⟩ := ow.c2)); have bb1 := Lib.hid (BB.out.drew.trans (b1.mono (by have hq := BB.out.size; simp <;> omega))); have s1 := b1.size; (try simp at s1); have hlt := row.lt; (try simp at hlt); have rw0 := row.more (lo' := W.heap.size) (by have hq := BB.out.size; simp <;> omega))) | (go_at_call 73; first | (((with_reducible refine (i_copy B d k (wv1.alloc (.cells #[.slice none 0 0, .slice none 0 0] 27)) hk (by (repeat (first | with_reducible assumption | (with_reducible refine K.Rd.alloc ?_ _) | (with_reducible refine K.Rd.drew ?_) | (with_reducible refine K.Rd.below ?_ (by with_reducible assumption)))))).mono ?_)); rintro e wv2 ⟨Y, m1, rfl, row2, b2⟩; have ow := (K.Own.new wv1 #[.slice none 0 0, .slice none 0 0] 27).below b2; obtain ⟨cw, cw1, fw, fw1, lw⟩ := ow.c2; have bb2 := Lib.hid (((bb1.out.alloc bb1.out.size (.cells #[.slice none 0 0, .slice none 0 0] 27))).trans (b2.mono (by have hq := bb1.out.size; simp <;> omega))); have s2 := b2.size; (try simp at s2); have hlu := row2.lt; (try simp at hlu); have rw1 := row2.more (lo' := W.heap.size) (by have hq := bb1.out.size; simp <;> omega); have apz : ∀ q, K.blk X = some q → K.blk Y ≠ some q := (fun q h1 h2 => by have e1 := hlt q h1; have e2 := hlu q h2; omega); have rwb := (rw0.alloc (.cells #[.slice none 0 0, .slice none 0 0] 27)).below b2) | (((with_reducible refine (i_copy B d k _ hk (by (repeat (first | with_reducible assumption | (with_reducible refine K.Rd.alloc ?_ _) | (with_reducible refine K.Rd.drew ?_) | (with_reducible refine K.Rd.below ?_ (by with_reducible assumption)))))).mono ?_)); rintro e wv2 ⟨Y, m1, rfl, row2, b2⟩; (try (replace ow := ow.below b2; obtain ⟨cw, cw1, fw, fw1, lw⟩ := ow.c2)); have bb2 := Lib.hid (bb1.out.trans (b2.mono (by have hq := bb1.out.size; simp <;> omega))); have s2 := b2.size; (try simp at s2); have hlu := row2.lt; (try simp at hlu); have rw1 := row2.more (lo' := W.heap.size) (by have hq := bb1.out.size; simp <;> omega); have apz : ∀ q, K.blk X = some q → K.blk Y ≠ some q := (fun q h1 h2 => by have e1 := hlt q h1; have e2 := hlu q h2; omega); have rwb := rw0.below b2)))
    all_goals have h0 := BB.out.size
    all_goals have h1 := bb1.out.size
    all_goals have h2 := bb2.out.size
    all_goals have bbz := bb2.out
    all_goals go_wp2_with fail
    all_goals go_meet
    all_goals exact ⟨X, n1, Y, m1, _, rfl, (by first | exact K.Own.set2 ow _ _ | exact K.Own.new _ _ _), by (repeat (first | with_reducible assumption | (with_reducible refine K.Row.setNe ?_ (fun g hg => by have hq := hlt g hg; simp at hq ⊢; omega) _) | (with_reducible refine K.Row.alloc ?_ _) | (with_reducible refine K.Row.drew ?_))), by (repeat (first | with_reducible assumption | (with_reducible refine K.Row.setNe ?_ (fun g hg => by have hq := hlu g hg; simp at hq ⊢; omega) _) | (with_reducible refine K.Row.alloc ?_ _) | (with_reducible refine K.Row.drew ?_))), apz, (fun h => by have hq := hlt _ h; first | omega | (simp at hq; done) | (simp at hq; omega)), (fun h => by have hq := hlu _ h; first | omega | (simp at hq; done) | (simp at hq; omega)), by first | omega | (simp; done) | (simp; omega), by (repeat (first | exact Below.refl _ _ | assumption | (refine K.below_drewN ?_ _) | (refine Below.drew ?_) | (refine Below.alloc ?_ (by first | (simp; done) | (simp; omega) | omega) _) | (refine Below.setCell ?_ (by first | (simp; done) | (simp; omega) | omega) _)))⟩
  obtain ⟨X, n1, Y, m1, g, rfl, own, rowx, rowy, apxy, nbx, nby, hgq, bq⟩ := hcut
  rename World => wq
  have hz9 := z.1.1
  replace x := x.below bq
  replace z := z.below bq
  replace bb := bb.trans (bq.mono bb.size)
  have hW0 := bb.size
  have q := x.c2
  have qg := x.1
  obtain ⟨z1, z2, z3, z4, z5⟩ := z.c2
  obtain ⟨w1, w2, w3, w4, w5⟩ := own.c2
  have hbb := Lib.hid bb
  skip
  by_cases hr : 0 ≤ a ∧ a < (l.length : Int)
  case' neg =>
    have hR : R = (([], []), false) := by rw [HR0.out]; unfold M.changedB; rw [if_neg (fun h => hr ⟨h.1, h.2.1⟩)]
    clear HR0
    subst hR
    go_wp2_with fail
    refine (Base.i_within_no _ _ _ _ (by omega)).mono ?_
    rintro e w1 ⟨rfl, rfl⟩
    go_wp2_with fail
    exact bodyPost_ret (v := .tuple #[.agg #[.slice none 0 0, .slice none 0 0], .bool false]) (by simp [results, Try.results76, go_sem, *]) rfl ⟨none, 0, none, 0, rfl, K.Row.nil _ _ _ _, K.Row.nil _ _ _ _, fun g h => by simp [K.blk] at h, by (repeat (first | exact Below.refl _ _ | assumption | (refine K.below_drewN ?_ _) | (refine Below.drew ?_) | (refine Below.alloc ?_ (by first | (simp; done) | (simp; omega) | omega) _) | (refine Below.setCell ?_ (by first | (simp; done) | (simp; omega) | omega) _)))⟩
  case' pos =>
    obtain ⟨j, rfl⟩ := Int.eq_ofNat_of_zero_le hr.1
    have hj : j < l.length := by omega
    have hj2 : j < k.length := by omega
    have hj3 : (j : Int) < (l.length : Int) := by omega
    have hj4 : (j : Int) < (k.length : Int) := by omega
    have hj0 : (0 : Int) ≤ (j : Int) := by omega
    clear hr
    obtain ⟨v1, v2⟩ := hlx l[j] (List.getElem_mem _)
    obtain ⟨v3, v4⟩ := hkx k[j] (List.getElem_mem _)
    cases line with
    | true =>
      have hz1 : w.heap.size ≤ W.heap.size := by omega
      obtain ⟨L, hL⟩ : ∃ L, L = l.set j (l[j] + b) := ⟨_, rfl⟩
      obtain ⟨Q, hQ⟩ : ∃ Q, Q = k.set j (k[j] + u) := ⟨_, rfl⟩
      have hLn : L.length = l.length := by rw [hL, List.length_set]
      have hQn : Q.length = k.length := by rw [hQ, List.length_set]
      obtain ⟨gx, rfl, gx1, gx2, hcx, hfx⟩ := rowx.int (k := j) (by omega)
      obtain ⟨gy, rfl, gy1, gy2, hcy, hfy⟩ := rowy.int (k := j) (by omega)
      have n1a : ¬ gx = gy := fun e => apxy gx rfl (by rw [e]; rfl)
      have n1b : ¬ gy = gx := fun e => n1a e.symm
      have n2a : ¬ gx = g := fun e => nbx (by rw [← e]; rfl)
      have n2b : ¬ gy = g := fun e => nby (by rw [← e]; rfl)
      have n2c : ¬ g = gx := fun e => n2a e.symm
      have n2d : ¬ g = gy := fun e => n2b e.symm
      have HN := Lib.hid apxy
      clear apxy nbx nby
      go_upto_region 7 with (go_at_call 57; refine (Base.i_within_yes _ _ _ _ (by omega) (by omega)).mono ?_; rintro e w1 ⟨rfl, rfl⟩)
      obtain ⟨wz, hwz⟩ : ∃ wz, wz = (wq.setCell ⟨gx, j, none⟩ (.int .i64 (l[j] + b))).setCell ⟨gy, j, none⟩ (.int .i64 (k[j] + u)) := ⟨_, rfl⟩
      have rx : K.Row wz W.heap.size 3 1 (some ⟨gx, 0, none⟩) l.length n1 (L.map (Value.int .i64)) := by rw [hwz, hL]; exact (rowx.setInt (j) _).setNe (fun q hq => by simp [K.blk] at hq; subst hq; exact n1b) _
      have ry : K.Row wz W.heap.size 3 1 (some ⟨gy, 0, none⟩) k.length m1 (Q.map (Value.int .i64)) := by rw [hwz, hQ]; exact (rowy.setNe (fun q hq => by simp [K.blk] at hq; subst hq; exact n1a) _).setInt (j) _
      have ownz : K.Own wz g [.slice (some ⟨gx, 0, none⟩) l.length n1, .slice (some ⟨gy, 0, none⟩) k.length m1] := by rw [hwz]; exact (own.setOther (by simpa using n2a) _).setOther (by simpa using n2b) _
      have zz : K.Own wz (w.heap.size + 1) [.slice none 0 0, .slice none 0 0] := by rw [hwz]; exact (z.setOther (by simp; omega) _).setOther (by simp; omega) _
      have bz : Below w.heap.size w wz := by rw [hwz]; exact (bb.setCell (by simp; omega) _).setCell (by simp; omega) _
      have HI := Lib.hid (BoardF.i_board (some ⟨gx, 0, none⟩) n1 L (some ⟨gy, 0, none⟩) m1 Q wz (by omega) (by omega) (by rw [hLn]; exact rx.rd) (by rw [hQn]; exact ry.rd))
      rw [hLn, hQn] at HI
      have HR := Lib.hid (show R = if M.bOk L Q = true then ((L, Q), true) else (([], []), false) by
        have e1 : M.chgB l k true j b u = (L, Q) := by rw [hL, hQ]; simp [M.chgB, hj, hj2]
        have e2 : ((j : Nat) : Int).toNat = j := rfl
        rw [HR0.out]; unfold M.changedB; rw [e2, e1]; by_cases hh : M.bOk L Q = true <;> simp [hh] <;> omega)
      clear HR0
      have HLn := Lib.hid hLn
      have HQn := Lib.hid hQn
      clear hL hQ hLn hQn own z bb rowx rowy hW0 z1 z2 z3 z4 z5
      have hz0 := bz.size
      obtain ⟨z1, z2, z3, z4, z5⟩ := zz.c2
      generalize hbo : M.bOk L Q = bo at HI HR
      clear hbo
      go_upto_region 9 with fail
      rw [← hwz]
      clear hwz w1 w2 w3 w4 w5 q qg hcx hfx hcy hfy
      obtain ⟨w1, w2, w3, w4, w5⟩ := ownz.c2
      cases bo with
      | false =>
        have hR := HR.out
        rw [if_neg (by simp)] at hR
        subst hR
        go_wp2_with fail
        refine HI.out.mono ?_
        rintro e wy ⟨rfl, by_⟩
        have bt := bz.trans (by_.mono bz.size)
        clear w1 w2 w3 w4 w5 z1 z2 z3 z4 z5
        obtain ⟨z1, z2, z3, z4, z5⟩ := (zz.below by_).c2
        obtain ⟨w1, w2, w3, w4, w5⟩ := (ownz.below by_).c2
        clear ownz zz
        go_wp2_with fail
        exact bodyPost_ret (v := .tuple #[.agg #[.slice none 0 0, .slice none 0 0], .bool false]) (by simp [results, Try.results76, go_sem, *]) rfl ⟨none, 0, none, 0, rfl, K.Row.nil _ _ _ _, K.Row.nil _ _ _ _, fun g h => by simp [K.blk] at h, by (repeat (first | exact Below.refl _ _ | assumption | (refine K.below_drewN ?_ _) | (refine Below.drew ?_) | (refine Below.alloc ?_ (by first | (simp; done) | (simp; omega) | omega) _) | (refine Below.setCell ?_ (by first | (simp; done) | (simp; omega) | omega) _)))⟩
      | true =>
        have hR := HR.out
        rw [if_pos rfl] at hR
        subst hR
        go_wp2_with fail
        refine HI.out.mono ?_
        rintro e wy ⟨rfl, by_⟩
        have bt := bz.trans (by_.mono bz.size)
        clear w1 w2 w3 w4 w5 z1 z2 z3 z4 z5
        obtain ⟨z1, z2, z3, z4, z5⟩ := (zz.below by_).c2
        obtain ⟨w1, w2, w3, w4, w5⟩ := (ownz.below by_).c2
        have rx1 := (rx.below by_).more hz1
        have ry1 := (ry.below by_).more hz1
        clear ownz zz
        go_wp2_with fail
        exact bodyPost_ret (v := .tuple #[.agg #[.slice (some ⟨gx, 0, none⟩) L.length n1, .slice (some ⟨gy, 0, none⟩) Q.length m1], .bool true]) (by rw [HLn.out, HQn.out]; simp [results, Try.results76, go_sem, *]) rfl ⟨some ⟨gx, 0, none⟩, n1, some ⟨gy, 0, none⟩, m1, rfl, by rw [HLn.out]; exact (rx1.setNe (fun q hq => by simp [K.blk] at hq; subst hq; simp; omega) _).setNe (fun q hq => by simp [K.blk] at hq; subst hq; simp; omega) _, by rw [HQn.out]; exact (ry1.setNe (fun q hq => by simp [K.blk] at hq; subst hq; simp; omega) _).setNe (fun q hq => by simp [K.blk] at hq; subst hq; simp; omega) _, HN.out, by (repeat (first | exact Below.refl _ _ | assumption | (refine K.below_drewN ?_ _) | (refine Below.drew ?_) | (refine Below.alloc ?_ (by first | (simp; done) | (simp; omega) | omega) _) | (refine Below.setCell ?_ (by first | (simp; done) | (simp; omega) | omega) _)))⟩
    | false =>
      have hz1 : w.heap.size ≤ W.heap.size := by omega
      by_cases hjl : j + 1 = l.length
      case' pos =>
        have hR : R = (([], []), false) := by rw [HR0.out]; unfold M.changedB; rw [if_neg (fun h => by have := h.2.2.1; simp at this; omega)]
        clear HR0
        subst hR
        have hd : ((j : Int) == (l.length : Int) - 1) = true := beq_iff_eq.2 (by omega)
        clear hjl
        go_wp2_with fail
        refine (Base.i_within_yes _ _ _ _ (by omega) (by omega)).mono ?_
        rintro e w1 ⟨rfl, rfl⟩
        go_wp2_with fail
        exact bodyPost_ret (v := .tuple #[.agg #[.slice none 0 0, .slice none 0 0], .bool false]) (by simp [results, Try.results76, go_sem, *]) rfl ⟨none, 0, none, 0, rfl, K.Row.nil _ _ _ _, K.Row.nil _ _ _ _, fun g h => by simp [K.blk] at h, by (repeat (first | exact Below.refl _ _ | assumption | (refine K.below_drewN ?_ _) | (refine Below.drew ?_) | (refine Below.alloc ?_ (by first | (simp; done) | (simp; omega) | omega) _) | (refine Below.setCell ?_ (by first | (simp; done) | (simp; omega) | omega) _)))⟩
      case' neg =>
        have hj1 : j + 1 < l.length := by omega
        have hd : ((j : Int) == (l.length : Int) - 1) = false := beq_eq_false_iff_ne.2 (by omega)
        clear hjl
        obtain ⟨v5, v6⟩ := hlx l[j + 1] (List.getElem_mem _)
        have hj5 : (0 : Int) ≤ (j : Int) + 1 := by omega
        have hj6 : (j : Int) + 1 < (l.length : Int) := by omega
        obtain ⟨L, hL⟩ : ∃ L, L = l.set (j + 1) (l[j + 1] + u) := ⟨_, rfl⟩
        obtain ⟨Q, hQ⟩ : ∃ Q, Q = k.set j (k[j] + b) := ⟨_, rfl⟩
        have hLn : L.length = l.length := by rw [hL, List.length_set]
        have hQn : Q.length = k.length := by rw [hQ, List.length_set]
        obtain ⟨gx, rfl, gx1, gx2, hcx, hfx⟩ := rowx.int (k := j + 1) (by omega)
        obtain ⟨gy, rfl, gy1, gy2, hcy, hfy⟩ := rowy.int (k := j) (by omega)
        have n1a : ¬ gx = gy := fun e => apxy gx rfl (by rw [e]; rfl)
        have n1b : ¬ gy = gx := fun e => n1a e.symm
        have n2a : ¬ gx = g := fun e => nbx (by rw [← e]; rfl)
        have n2b : ¬ gy = g := fun e => nby (by rw [← e]; rfl)
        have n2c : ¬ g = gx := fun e => n2a e.symm
        have n2d : ¬ g = gy := fun e => n2b e.symm
        have HN := Lib.hid apxy
        clear apxy nbx nby
        go_upto_region 2 with (go_at_call 57; refine (Base.i_within_yes _ _ _ _ (by omega) (by omega)).mono ?_; rintro e w1 ⟨rfl, rfl⟩)
        obtain ⟨wz, hwz⟩ : ∃ wz, wz = (wq.setCell ⟨gy, j, none⟩ (.int .i64 (k[j] + b))).setCell ⟨gx, j + 1, none⟩ (.int .i64 (l[j + 1] + u)) := ⟨_, rfl⟩
        have rx : K.Row wz W.heap.size 3 1 (some ⟨gx, 0, none⟩) l.length n1 (L.map (Value.int .i64)) := by rw [hwz, hL]; exact (rowx.setNe (fun q hq => by simp [K.blk] at hq; subst hq; exact n1b) _).setInt (j + 1) _
        have ry : K.Row wz W.heap.size 3 1 (some ⟨gy, 0, none⟩) k.length m1 (Q.map (Value.int .i64)) := by rw [hwz, hQ]; exact (rowy.setInt (j) _).setNe (fun q hq => by simp [K.blk] at hq; subst hq; exact n1a) _
        have ownz : K.Own wz g [.slice (some ⟨gx, 0, none⟩) l.length n1, .slice (some ⟨gy, 0, none⟩) k.length m1] := by rw [hwz]; exact (own.setOther (by simpa using n2b) _).setOther (by simpa using n2a) _
        have zz : K.Own wz (w.heap.size + 1) [.slice none 0 0, .slice none 0 0] := by rw [hwz]; exact (z.setOther (by simp; omega) _).setOther (by simp; omega) _
        have bz : Below w.heap.size w wz := by rw [hwz]; exact (bb.setCell (by simp; omega) _).setCell (by simp; omega) _
        have HI := Lib.hid (BoardF.i_board (some ⟨gx, 0, none⟩) n1 L (some ⟨gy, 0, none⟩) m1 Q wz (by omega) (by omega) (by rw [hLn]; exact rx.rd) (by rw [hQn]; exact ry.rd))
        rw [hLn, hQn] at HI
        have HR := Lib.hid (show R = if M.bOk L Q = true then ((L, Q), true) else (([], []), false) by
          have e1 : M.chgB l k false j b u = (L, Q) := by rw [hL, hQ]; simp [M.chgB, hj2, hj1]
          have e2 : ((j : Nat) : Int).toNat = j := rfl
          rw [HR0.out]; unfold M.changedB; rw [e2, e1]; by_cases hh : M.bOk L Q = true <;> simp [hh] <;> omega)
        clear HR0
        have HLn := Lib.hid hLn
        have HQn := Lib.hid hQn
        clear hL hQ hLn hQn own z bb rowx rowy hW0 z1 z2 z3 z4 z5
        have hz0 := bz.size
        obtain ⟨z1, z2, z3, z4, z5⟩ := zz.c2
        generalize hbo : M.bOk L Q = bo at HI HR
        clear hbo
        go_upto_region 9 with fail
        rw [← hwz]
        clear hwz w1 w2 w3 w4 w5 q qg hcx hfx hcy hfy
        obtain ⟨w1, w2, w3, w4, w5⟩ := ownz.c2
        cases bo with
        | false =>
          have hR := HR.out
          rw [if_neg (by simp)] at hR
          subst hR
          go_wp2_with fail
          refine HI.out.mono ?_
          rintro e wy ⟨rfl, by_⟩
          have bt := bz.trans (by_.mono bz.size)
          clear w1 w2 w3 w4 w5 z1 z2 z3 z4 z5
          obtain ⟨z1, z2, z3, z4, z5⟩ := (zz.below by_).c2
          obtain ⟨w1, w2, w3, w4, w5⟩ := (ownz.below by_).c2
          clear ownz zz
          go_wp2_with fail
          exact bodyPost_ret (v := .tuple #[.agg #[.slice none 0 0, .slice none 0 0], .bool false]) (by simp [results, Try.results76, go_sem, *]) rfl ⟨none, 0, none, 0, rfl, K.Row.nil _ _ _ _, K.Row.nil _ _ _ _, fun g h => by simp [K.blk] at h, by (repeat (first | exact Below.refl _ _ | assumption | (refine K.below_drewN ?_ _) | (refine Below.drew ?_) | (refine Below.alloc ?_ (by first | (simp; done) | (simp; omega) | omega) _) | (refine Below.setCell ?_ (by first | (simp; done) | (simp; omega) | omega) _)))⟩
        | true =>
          have hR := HR.out
          rw [if_pos rfl] at hR
          subst hR
          go_wp2_with fail
          refine HI.out.mono ?_
          rintro e wy ⟨rfl, by_⟩
          have bt := bz.trans (by_.mono bz.size)
          clear w1 w2 w3 w4 w5 z1 z2 z3 z4 z5
          obtain ⟨z1, z2, z3, z4, z5⟩ := (zz.below by_).c2
          obtain ⟨w1, w2, w3, w4, w5⟩ := (ownz.below by_).c2
          have rx1 := (rx.below by_).more hz1
          have ry1 := (ry.below by_).more hz1
          clear ownz zz
          go_wp2_with fail
          exact bodyPost_ret (v := .tuple #[.agg #[.slice (some ⟨gx, 0, none⟩) L.length n1, .slice (some ⟨gy, 0, none⟩) Q.length m1], .bool true]) (by rw [HLn.out, HQn.out]; simp [results, Try.results76, go_sem, *]) rfl ⟨some ⟨gx, 0, none⟩, n1, some ⟨gy, 0, none⟩, m1, rfl, by rw [HLn.out]; exact (rx1.setNe (fun q hq => by simp [K.blk] at hq; subst hq; simp; omega) _).setNe (fun q hq => by simp [K.blk] at hq; subst hq; simp; omega) _, by rw [HQn.out]; exact (ry1.setNe (fun q hq => by simp [K.blk] at hq; subst hq; simp; omega) _).setNe (fun q hq => by simp [K.blk] at hq; subst hq; simp; omega) _, HN.out, by (repeat (first | exact Below.refl _ _ | assumption | (refine K.below_drewN ?_ _) | (refine Below.drew ?_) | (refine Below.alloc ?_ (by first | (simp; done) | (simp; omega) | omega) _) | (refine Below.setCell ?_ (by first | (simp; done) | (simp; omega) | omega) _)))⟩
  --@end
theorem i_taken (line : Bool) (w : World) :
    Calls Try.prog 77 #[.bool line] w fun e w' => e = .returned (.int .i64 (M.takenB line)) ∧ w = w' := by
  cases line with
  | true =>
    go_enter Try.func77, Try.ntmps77
    go_wp2
    go_ret
    exact ⟨rfl, rfl⟩
  | false =>
    go_enter Try.func77, Try.ntmps77
    go_wp2
    go_ret
    exact ⟨rfl, rfl⟩
set_option maxHeartbeats 1000000 in
theorem i_carry (A : Option Addr) (c : Nat) (l : List Int) (B : Option Addr) (d : Nat) (k : List Int) (line : Bool) (a : Int) (w : World) (hl : l.length ≤ 1048576) (hk : k.length ≤ 1048576) (ha : K.Rd w 1 A l.length (l.map (Value.int .i64))) (hb : K.Rd w 1 B k.length (k.map (Value.int .i64))) :
    Calls Try.prog 40 #[.agg #[.slice A l.length c, .slice B k.length d], .bool line, .int .i64 a] w (BoardH.RetBoardB w (M.carryB l k line a).1.1 (M.carryB l k line a).1.2 (M.carryB l k line a).2) := by
  obtain ⟨o, ho⟩ : ∃ o : Obj, o = .cells #[.slice A l.length c, .slice B k.length d] 27 := ⟨_, rfl⟩
  obtain ⟨o2, ho2⟩ : ∃ o : Obj, o = .cells #[.slice none 0 0, .slice none 0 0] 27 := ⟨_, rfl⟩
  have r := (ha.alloc o).alloc o2
  have t := (hb.alloc o).alloc o2
  have x : K.Box ((w.alloc o).alloc o2) w.heap.size [.slice A l.length c, .slice B k.length d] := by rw [ho]; exact (K.Box.new w #[.slice A l.length c, .slice B k.length d] 27).alloc _
  have z : K.Own ((w.alloc o).alloc o2) (w.heap.size + 1) [.slice none 0 0, .slice none 0 0] := by have h := K.Own.new (w.alloc o) #[.slice none 0 0, .slice none 0 0] 27; rw [World.size_alloc] at h; rw [ho2]; exact h
  have bb : Below w.heap.size w ((w.alloc o).alloc o2) := by (repeat (first | exact Below.refl _ _ | assumption | (refine K.below_drewN ?_ _) | (refine Below.drew ?_) | (refine Below.alloc ?_ (by first | (simp; done) | (simp; omega) | omega) _) | (refine Below.setCell ?_ (by first | (simp; done) | (simp; omega) | omega) _)))
  subst ho ho2
  have HS := Lib.hid (BoardF.i_board A c l B d k _ hl hk r t)
  cases hok : M.bOk l k with
  | false =>
    rw [hok] at HS
    have hR : M.carryB l k line a = (([], []), false) := by unfold M.carryB; rw [hok]; rfl
    rw [hR]
    clear hok hR
    go_enter Try.func40, Try.ntmps40
    have p0 := x.c2
    have pg := x.1
    go_wp2_with fail
    refine HS.out.mono ?_
    rintro e w1 ⟨rfl, b1⟩
    clear p0 pg
    replace bb := bb.trans (b1.mono bb.size)
    obtain ⟨z1, z2, z3, z4, z5⟩ := (z.below b1).c2
    clear z b1 x r t
    go_wp2_with fail
    exact bodyPost_ret (v := .tuple #[.agg #[.slice none 0 0, .slice none 0 0], .bool false]) (by simp [results, Try.results40, go_sem, *]) rfl ⟨none, 0, none, 0, rfl, K.Row.nil _ _ _ _, K.Row.nil _ _ _ _, fun g h => by simp [K.blk] at h, by (repeat (first | exact Below.refl _ _ | assumption | (refine K.below_drewN ?_ _) | (refine Below.drew ?_) | (refine Below.alloc ?_ (by first | (simp; done) | (simp; omega) | omega) _) | (refine Below.setCell ?_ (by first | (simp; done) | (simp; omega) | omega) _)))⟩
  | true =>
    rw [hok] at HS
    have htk : M.takenB line = 5 ∨ M.takenB line = 2 := by unfold M.takenB; split <;> simp
    have hR : M.carryB l k line a = M.changedB l k line a (-M.takenB line) (1) := by unfold M.carryB; rw [if_pos hok]
    rw [hR]
    have HC := Lib.hid (fun w h h2 => i_changed A c l B d k line a (-M.takenB line) (1) w hl hok (by rcases htk with h | h <;> omega) (by omega) h h2)
    have HT := Lib.hid (fun w => i_taken line w)
    generalize M.changedB l k line a (-M.takenB line) (1) = R at HC ⊢
    obtain ⟨tk, htke⟩ : ∃ tk, tk = M.takenB line := ⟨_, rfl⟩
    rw [← htke] at htk HC HT
    clear hok hR htke
    have ht0 : 0 ≤ tk ∧ tk ≤ 5 := by rcases htk with h | h <;> omega
    obtain ⟨ht1, ht2⟩ := ht0
    have sw : IntKind.i64.wrap (-tk) = -tk := IntWalk.i64_in _ (by omega)
    have sw2 : IntKind.i64.wrap tk = tk := IntWalk.i64_in _ (by omega)
    clear htk
    go_enter Try.func40, Try.ntmps40
    have p0 := x.c2
    have pg := x.1
    go_wp2_with fail
    refine HS.out.mono ?_
    rintro e w1 ⟨rfl, b1⟩
    clear p0 pg
    replace x := x.below b1
    replace z := z.below b1
    replace r := r.below b1
    replace t := t.below b1
    replace bb := bb.trans (b1.mono bb.size)
    clear b1
    have p0 := x.c2
    have pg := x.1
    go_wp2_with fail
    have BB := Lib.hid bb
    clear bb
    go_region_held3 (fun w' => w'.cell? ⟨w.heap.size, 0, none⟩ = some (.slice A l.length c) ∧ w'.cell? ⟨w.heap.size, 1, none⟩ = some (.slice B k.length d))
      (((try dsimp only); refine ⟨(by (refine K.Box.at_ (vs := [.slice A l.length c, .slice B k.length d]) (j := 0) ?_ rfl; (repeat (first | with_reducible assumption | (with_reducible refine K.Box.alloc ?_ _) | (with_reducible refine K.Box.drew ?_) | (with_reducible refine K.Box.setOther ?_ (by simp <;> omega) _) | (with_reducible refine K.Box.below ?_ (by with_reducible assumption)))))), (by (refine K.Box.at_ (vs := [.slice A l.length c, .slice B k.length d]) (j := 1) ?_ rfl; (repeat (first | with_reducible assumption | (with_reducible refine K.Box.alloc ?_ _) | (with_reducible refine K.Box.drew ?_) | (with_reducible refine K.Box.setOther ?_ (by simp <;> omega) _) | (with_reducible refine K.Box.below ?_ (by with_reducible assumption))))))⟩))
      (first | (go_at_call 77; ((with_reducible refine (HT.out _).mono ?_)); rintro e w2 ⟨rfl, rfl⟩) | (go_at_call 76; ((with_reducible refine (HC.out _ (by (repeat (first | with_reducible assumption | (with_reducible refine K.Rd.alloc ?_ _) | (with_reducible refine K.Rd.drew ?_) | (with_reducible refine K.Rd.below ?_ (by with_reducible assumption))))) (by (repeat (first | with_reducible assumption | (with_reducible refine K.Rd.alloc ?_ _) | (with_reducible refine K.Rd.drew ?_) | (with_reducible refine K.Rd.below ?_ (by with_reducible assumption)))))).mono ?_)); rintro e w3 ⟨X, n1, Y, m1, rfl, row, row2, apz, b3⟩; have hlt := row.lt; (try simp at hlt); have hlu := row2.lt; (try simp at hlu); have rw0 := row.more (lo' := w.heap.size) (by have hq := BB.out.size; simp <;> omega); have rw1 := row2.more (lo' := w.heap.size) (by have hq := BB.out.size; simp <;> omega); have bb3 := Lib.hid (BB.out.drew.trans (b3.mono (by have hq := BB.out.size; simp <;> omega))); have zc := (by (repeat (first | with_reducible assumption | (with_reducible refine K.Own.alloc ?_ _) | (with_reducible refine K.Own.drew ?_) | (with_reducible refine K.Own.setOther ?_ (by simp <;> omega) _) | (with_reducible refine K.Own.below ?_ (by with_reducible assumption)))) : K.Own w3 (w.heap.size + 1) [.slice none 0 0, .slice none 0 0]); obtain ⟨z1, z2, z3, z4, z5⟩ := zc.c2))
    all_goals have h0 := bb3.out.size
    all_goals have hzs := z.1.1
    all_goals have bbz := bb3.out
    all_goals clear sw sw2
    all_goals go_wp2_with fail
    all_goals exact bodyPost_ret (v := .tuple #[.agg #[.slice X R.1.1.length n1, .slice Y R.1.2.length m1], .bool R.2]) (by simp [results, Try.results40, go_sem, *]) rfl ⟨X, n1, Y, m1, rfl, by (repeat (first | with_reducible assumption | (with_reducible refine K.Row.setNe ?_ (fun g hg => by have hq := hlt g hg; simp at hq ⊢; omega) _) | (with_reducible refine K.Row.alloc ?_ _) | (with_reducible refine K.Row.drew ?_))), by (repeat (first | with_reducible assumption | (with_reducible refine K.Row.setNe ?_ (fun g hg => by have hq := hlu g hg; simp at hq ⊢; omega) _) | (with_reducible refine K.Row.alloc ?_ _) | (with_reducible refine K.Row.drew ?_))), apz, by (repeat (first | exact Below.refl _ _ | assumption | (refine K.below_drewN ?_ _) | (refine Below.drew ?_) | (refine Below.alloc ?_ (by first | (simp; done) | (simp; omega) | omega) _) | (refine Below.setCell ?_ (by first | (simp; done) | (simp; omega) | omega) _)))⟩
    --@end
set_option maxHeartbeats 1000000 in
theorem i_borrow (A : Option Addr) (c : Nat) (l : List Int) (B : Option Addr) (d : Nat) (k : List Int) (line : Bool) (a : Int) (w : World) (hl : l.length ≤ 1048576) (hk : k.length ≤ 1048576) (ha : K.Rd w 1 A l.length (l.map (Value.int .i64))) (hb : K.Rd w 1 B k.length (k.map (Value.int .i64))) :
    Calls Try.prog 38 #[.agg #[.slice A l.length c, .slice B k.length d], .bool line, .int .i64 a] w (BoardH.RetBoardB w (M.borrowB l k line a).1.1 (M.borrowB l k line a).1.2 (M.borrowB l k line a).2) := by
  obtain ⟨o, ho⟩ : ∃ o : Obj, o = .cells #[.slice A l.length c, .slice B k.length d] 27 := ⟨_, rfl⟩
  obtain ⟨o2, ho2⟩ : ∃ o : Obj, o = .cells #[.slice none 0 0, .slice none 0 0] 27 := ⟨_, rfl⟩
  have r := (ha.alloc o).alloc o2
  have t := (hb.alloc o).alloc o2
  have x : K.Box ((w.alloc o).alloc o2) w.heap.size [.slice A l.length c, .slice B k.length d] := by rw [ho]; exact (K.Box.new w #[.slice A l.length c, .slice B k.length d] 27).alloc _
  have z : K.Own ((w.alloc o).alloc o2) (w.heap.size + 1) [.slice none 0 0, .slice none 0 0] := by have h := K.Own.new (w.alloc o) #[.slice none 0 0, .slice none 0 0] 27; rw [World.size_alloc] at h; rw [ho2]; exact h
  have bb : Below w.heap.size w ((w.alloc o).alloc o2) := by (repeat (first | exact Below.refl _ _ | assumption | (refine K.below_drewN ?_ _) | (refine Below.drew ?_) | (refine Below.alloc ?_ (by first | (simp; done) | (simp; omega) | omega) _) | (refine Below.setCell ?_ (by first | (simp; done) | (simp; omega) | omega) _)))
  subst ho ho2
  have HS := Lib.hid (BoardF.i_board A c l B d k _ hl hk r t)
  cases hok : M.bOk l k with
  | false =>
    rw [hok] at HS
    have hR : M.borrowB l k line a = (([], []), false) := by unfold M.borrowB; rw [hok]; rfl
    rw [hR]
    clear hok hR
    go_enter Try.func38, Try.ntmps38
    have p0 := x.c2
    have pg := x.1
    go_wp2_with fail
    refine HS.out.mono ?_
    rintro e w1 ⟨rfl, b1⟩
    clear p0 pg
    replace bb := bb.trans (b1.mono bb.size)
    obtain ⟨z1, z2, z3, z4, z5⟩ := (z.below b1).c2
    clear z b1 x r t
    go_wp2_with fail
    exact bodyPost_ret (v := .tuple #[.agg #[.slice none 0 0, .slice none 0 0], .bool false]) (by simp [results, Try.results38, go_sem, *]) rfl ⟨none, 0, none, 0, rfl, K.Row.nil _ _ _ _, K.Row.nil _ _ _ _, fun g h => by simp [K.blk] at h, by (repeat (first | exact Below.refl _ _ | assumption | (refine K.below_drewN ?_ _) | (refine Below.drew ?_) | (refine Below.alloc ?_ (by first | (simp; done) | (simp; omega) | omega) _) | (refine Below.setCell ?_ (by first | (simp; done) | (simp; omega) | omega) _)))⟩
  | true =>
    rw [hok] at HS
    have htk : M.takenB line = 5 ∨ M.takenB line = 2 := by unfold M.takenB; split <;> simp
    have hR : M.borrowB l k line a = M.changedB l k line a (M.takenB line) (-1) := by unfold M.borrowB; rw [if_pos hok]
    rw [hR]
    have HC := Lib.hid (fun w h h2 => i_changed A c l B d k line a (M.takenB line) (-1) w hl hok (by rcases htk with h | h <;> omega) (by omega) h h2)
    have HT := Lib.hid (fun w => i_taken line w)
    generalize M.changedB l k line a (M.takenB line) (-1) = R at HC ⊢
    obtain ⟨tk, htke⟩ : ∃ tk, tk = M.takenB line := ⟨_, rfl⟩
    rw [← htke] at htk HC HT
    clear hok hR htke
    have ht0 : 0 ≤ tk ∧ tk ≤ 5 := by rcases htk with h | h <;> omega
    obtain ⟨ht1, ht2⟩ := ht0
    have sw : IntKind.i64.wrap (-tk) = -tk := IntWalk.i64_in _ (by omega)
    have sw2 : IntKind.i64.wrap tk = tk := IntWalk.i64_in _ (by omega)
    clear htk
    go_enter Try.func38, Try.ntmps38
    have p0 := x.c2
    have pg := x.1
    go_wp2_with fail
    refine HS.out.mono ?_
    rintro e w1 ⟨rfl, b1⟩
    clear p0 pg
    replace x := x.below b1
    replace z := z.below b1
    replace r := r.below b1
    replace t := t.below b1
    replace bb := bb.trans (b1.mono bb.size)
    clear b1
    have p0 := x.c2
    have pg := x.1
    go_wp2_with fail
    have BB := Lib.hid bb
    clear bb
    go_region_held3 (fun w' => w'.cell? ⟨w.heap.size, 0, none⟩ = some (.slice A l.length c) ∧ w'.cell? ⟨w.heap.size, 1, none⟩ = some (.slice B k.length d))
      (((try dsimp only); refine ⟨(by (refine K.Box.at_ (vs := [.slice A l.length c, .slice B k.length d]) (j := 0) ?_ rfl; (repeat (first | with_reducible assumption | (with_reducible refine K.Box.alloc ?_ _) | (with_reducible refine K.Box.drew ?_) | (with_reducible refine K.Box.setOther ?_ (by simp <;> omega) _) | (with_reducible refine K.Box.below ?_ (by with_reducible assumption)))))), (by (refine K.Box.at_ (vs := [.slice A l.length c, .slice B k.length d]) (j := 1) ?_ rfl; (repeat (first | with_reducible assumption | (with_reducible refine K.Box.alloc ?_ _) | (with_reducible refine K.Box.drew ?_) | (with_reducible refine K.Box.setOther ?_ (by simp <;> omega) _) | (with_reducible refine K.Box.below ?_ (by with_reducible assumption))))))⟩))
      (first | (go_at_call 77; ((with_reducible refine (HT.out _).mono ?_)); rintro e w2 ⟨rfl, rfl⟩) | (go_at_call 76; ((with_reducible refine (HC.out _ (by (repeat (first | with_reducible assumption | (with_reducible refine K.Rd.alloc ?_ _) | (with_reducible refine K.Rd.drew ?_) | (with_reducible refine K.Rd.below ?_ (by with_reducible assumption))))) (by (repeat (first | with_reducible assumption | (with_reducible refine K.Rd.alloc ?_ _) | (with_reducible refine K.Rd.drew ?_) | (with_reducible refine K.Rd.below ?_ (by with_reducible assumption)))))).mono ?_)); rintro e w3 ⟨X, n1, Y, m1, rfl, row, row2, apz, b3⟩; have hlt := row.lt; (try simp at hlt); have hlu := row2.lt; (try simp at hlu); have rw0 := row.more (lo' := w.heap.size) (by have hq := BB.out.size; simp <;> omega); have rw1 := row2.more (lo' := w.heap.size) (by have hq := BB.out.size; simp <;> omega); have bb3 := Lib.hid (BB.out.drew.trans (b3.mono (by have hq := BB.out.size; simp <;> omega))); have zc := (by (repeat (first | with_reducible assumption | (with_reducible refine K.Own.alloc ?_ _) | (with_reducible refine K.Own.drew ?_) | (with_reducible refine K.Own.setOther ?_ (by simp <;> omega) _) | (with_reducible refine K.Own.below ?_ (by with_reducible assumption)))) : K.Own w3 (w.heap.size + 1) [.slice none 0 0, .slice none 0 0]); obtain ⟨z1, z2, z3, z4, z5⟩ := zc.c2))
    all_goals have h0 := bb3.out.size
    all_goals have hzs := z.1.1
    all_goals have bbz := bb3.out
    all_goals clear sw sw2
    all_goals go_wp2_with fail
    all_goals exact bodyPost_ret (v := .tuple #[.agg #[.slice X R.1.1.length n1, .slice Y R.1.2.length m1], .bool R.2]) (by simp [results, Try.results38, go_sem, *]) rfl ⟨X, n1, Y, m1, rfl, by (repeat (first | with_reducible assumption | (with_reducible refine K.Row.setNe ?_ (fun g hg => by have hq := hlt g hg; simp at hq ⊢; omega) _) | (with_reducible refine K.Row.alloc ?_ _) | (with_reducible refine K.Row.drew ?_))), by (repeat (first | with_reducible assumption | (with_reducible refine K.Row.setNe ?_ (fun g hg => by have hq := hlu g hg; simp at hq ⊢; omega) _) | (with_reducible refine K.Row.alloc ?_ _) | (with_reducible refine K.Row.drew ?_))), apz, by (repeat (first | exact Below.refl _ _ | assumption | (refine K.below_drewN ?_ _) | (refine Below.drew ?_) | (refine Below.alloc ?_ (by first | (simp; done) | (simp; omega) | omega) _) | (refine Below.setCell ?_ (by first | (simp; done) | (simp; omega) | omega) _)))⟩
    --@end
end Go.Proofs.Ytmgegacgjppdbaa.BoardO
