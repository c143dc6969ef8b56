/-
  Walks: what is reckoned with amounts (printed by gen_amt.py).
-/
import Derived.Test.YtfgnmjnlhnpmoaaProper
set_option linter.unusedVariables false
namespace Go.Proofs.Ytfgnmjnlhnpmoaa.M
theorem sumOf_le (l : List Unit) (a b : List Int) (h : l.length ≤ 1048576) : (sumOf l a b).1.length ≤ 1048576 := by
  unfold sumOf; split
  · exact proper_le _ _ h
  · simp
theorem diffOf_le (l : List Unit) (a b : List Int) (h : l.length ≤ 1048576) : (diffOf l a b).1.length ≤ 1048576 := by
  unfold diffOf; split
  · exact proper_le _ _ h
  · simp
theorem timesOf_le (l : List Unit) (a : List Int) (n : Int) (h : l.length ≤ 1048576) : (timesOf l a n).1.length ≤ 1048576 := by
  unfold timesOf; split
  · exact proper_le _ _ h
  · simp
theorem convTo_le (l : List Unit) (a : List Int) (l2 : List Unit) (n d : Int) (h : l2.length ≤ 1048576) : (convTo l a l2 n d).1.length ≤ 1048576 := by
  unfold convTo; split
  · exact proper_le _ _ h
  · simp
theorem properOf_le (l : List Unit) (v : Int) (h : l.length ≤ 1048576) : (properOf l v).1.length ≤ 1048576 := by
  unfold properOf; split
  · exact proper_le _ _ h
  · simp
theorem sumOf_yes {l : List Unit} {a b : List Int} (h : amtOk l a = true) (h' : amtOk l b = true) : sumOf l a b = proper l (aV l a + aV l b) := by simp [sumOf, h, h']
theorem sumOf_no {l : List Unit} {a b : List Int} (h : ¬ (amtOk l a = true ∧ amtOk l b = true)) : sumOf l a b = ([], false) := by unfold sumOf; rw [if_neg h]
theorem diffOf_yes {l : List Unit} {a b : List Int} (h : amtOk l a = true) (h' : amtOk l b = true) : diffOf l a b = proper l (aV l a - aV l b) := by simp [diffOf, h, h']
theorem diffOf_no {l : List Unit} {a b : List Int} (h : ¬ (amtOk l a = true ∧ amtOk l b = true)) : diffOf l a b = ([], false) := by unfold diffOf; rw [if_neg h]
theorem timesOf_yes {l : List Unit} {a : List Int} {n : Int} (h : amtOk l a = true) (h' : inR n 0 1000 = true) : timesOf l a n = proper l (n * aV l a) := by simp [timesOf, h, h']
theorem timesOf_no {l : List Unit} {a : List Int} {n : Int} (h : ¬ (amtOk l a = true ∧ inR n 0 1000 = true)) : timesOf l a n = ([], false) := by unfold timesOf; rw [if_neg h]
theorem convTo_yes {l l2 : List Unit} {a : List Int} {num den : Int} (h : amtOk l a = true) (h1 : sysOk l2 = true) (h2 : inR num 1 10000 = true) (h3 : inR den 1 10000 = true) : convTo l a l2 num den = proper l2 (aV l a * num / den) := by simp [convTo, h, h1, h2, h3]
theorem convTo_no {l l2 : List Unit} {a : List Int} {num den : Int} (h : ¬ (amtOk l a = true ∧ sysOk l2 = true ∧ inR num 1 10000 = true ∧ inR den 1 10000 = true)) : convTo l a l2 num den = ([], false) := by unfold convTo; rw [if_neg h]
theorem properOf_yes {l : List Unit} {v : Int} (h : sysOk l = true) : properOf l v = proper l v := by simp [properOf, h]
theorem properOf_no {l : List Unit} {v : Int} (h : ¬ sysOk l = true) : properOf l v = ([], false) := by unfold properOf; rw [if_neg h]
end Go.Proofs.Ytfgnmjnlhnpmoaa.M
namespace Go.Proofs.Ytfgnmjnlhnpmoaa.AmtOps
open Go.RowKit
set_option maxHeartbeats 2000000 in
theorem i_properof (A : Option Addr) (c : Nat) (l : List M.Unit) (v : Int) (w : World) (hl : l.length ≤ 1048576) (hs : ∀ u ∈ l, u.name.size ≤ 9223372036854775807) (hc : l.length ≤ c) (hcc : c ≤ 9223372036854775807) (ha : K.Rd w 2 A l.length (l.flatMap M.unitCells)) (hv : v ≤ 9223372036854775807) :
    Calls Try.prog 32 #[.slice A l.length c, .int .i64 v] w (AmountH.RetAmountB w (M.properOf l v).1 (M.properOf l v).2) := by
  obtain ⟨o0, ho0⟩ : ∃ o : Obj, o = .cells #[.slice none 0 0] 40 := ⟨_, rfl⟩
  have r : K.Rd (w.alloc o0) 2 A l.length (l.flatMap M.unitCells) := by (repeat (first | with_reducible assumption | (with_reducible refine K.Rd.alloc ?_ _) | (with_reducible refine K.Rd.drew ?_) | (with_reducible refine K.Rd.below ?_ (by with_reducible assumption))))
  have z : K.Own (w.alloc o0) (w.heap.size) [.slice none 0 0] := by have h := K.Own.new w #[.slice none 0 0] 40; rw [ho0]; exact h
  have bb : Below w.heap.size w (w.alloc o0) := by (repeat (first | exact Below.refl _ _ | assumption | (refine K.below_drewN ?_ _) | (refine Below.drew ?_) | (refine Below.alloc ?_ (by first | (simp; done) | (simp; omega) | omega) _) | (refine Below.setCell ?_ (by first | (simp; done) | (simp; omega) | omega) _)))
  subst ho0
  have HS0 := Lib.hid (fun w h  => Sys.i_sys A c l w hl hs hc hcc h)
  cases hok0 : M.sysOk l with
  | false =>
    rw [M.properOf_no (fun h => by have h := h; rw [hok0] at h; cases h)]
    rw [hok0] at HS0
    clear hok0
    go_enter Try.func32, Try.ntmps32
    have pz := z.c1.2.2
    go_wp2_with fail
    refine (HS0.out _ r).mono ?_
    rintro e w1 ⟨rfl, b1⟩
    clear pz
    replace r := r.below b1
    replace z := z.below b1
    replace bb := bb.trans (b1.mono bb.size)
    clear b1
    obtain ⟨z1, z2, z3⟩ := z.c1
    go_wp2_with fail
    exact bodyPost_ret (v := .tuple #[.agg #[.slice none 0 0], .bool false]) (by simp [results, Try.results32, go_sem, z1]) rfl ⟨none, 0, rfl, K.Row.nil _ _ _ _, bb.setCell (by simp; try omega) _⟩
  | true =>
    rw [hok0] at HS0
    rw [M.properOf_yes hok0]
    have HP := Lib.hid (fun w h => Proper.i_proper A c l v w hok0 hv h)
    generalize M.proper l v = R at HP ⊢
    clear hok0
    go_enter Try.func32, Try.ntmps32
    have pz := z.c1.2.2
    go_wp2_with fail
    refine (HS0.out _ r).mono ?_
    rintro e w1 ⟨rfl, b1⟩
    clear pz
    replace r := r.below b1
    replace z := z.below b1
    replace bb := bb.trans (b1.mono bb.size)
    clear b1
    have pz := z.c1.2.2
    go_wp2_with fail
    refine (HP.out _ r).mono ?_
    rintro e w2 ⟨X, m, rfl, row, b2⟩
    clear pz
    have hlt := row.lt
    have rw0 := row.more (lo' := w.heap.size) bb.size
    have h0 := bb.size
    have bbz := bb.trans (b2.mono bb.size)
    have hz0 := bbz.size
    obtain ⟨z1, z2, z3⟩ := (z.below b2).c1
    have hq0 := z.1.1
    have hq1 := b2.size
    go_wp2_with fail
    exact bodyPost_ret (v := .tuple #[.agg #[.slice X R.1.length m], .bool R.2]) (by simp [results, Try.results32, go_sem, *]) rfl ⟨X, m, rfl, by (repeat (first | with_reducible assumption | (with_reducible refine K.Row.setNe ?_ (fun g hg => by have hq := hlt g hg; simp at hq ⊢; omega) _) | (with_reducible refine K.Row.alloc ?_ _) | (with_reducible refine K.Row.drew ?_))), by (repeat (first | exact Below.refl _ _ | assumption | (refine K.below_drewN ?_ _) | (refine Below.drew ?_) | (refine Below.alloc ?_ (by first | (simp; done) | (simp; omega) | omega) _) | (refine Below.setCell ?_ (by first | (simp; done) | (simp; omega) | omega) _)))⟩
set_option maxHeartbeats 2000000 in
theorem s_properof (A : Option Addr) (c : Nat) (l : List M.Unit) (v : Int) (w : World) (hl : l.length ≤ 1048576) (hs : ∀ u ∈ l, u.name.size ≤ 9223372036854775807) (hc : l.length ≤ c) (hcc : c ≤ 9223372036854775807) (ha : K.Rd w 2 A l.length (l.flatMap M.unitCells)) (hv : v ≤ 9223372036854775807) :
    Calls Try.prog 31 #[.slice A l.length c, .int .i64 v] w (AmountH.RetAmountB w (M.properOf l v).1 (M.properOf l v).2) := by
  obtain ⟨o0, ho0⟩ : ∃ o : Obj, o = .cells #[.slice none 0 0] 40 := ⟨_, rfl⟩
  have r : K.Rd (w.alloc o0) 2 A l.length (l.flatMap M.unitCells) := by (repeat (first | with_reducible assumption | (with_reducible refine K.Rd.alloc ?_ _) | (with_reducible refine K.Rd.drew ?_) | (with_reducible refine K.Rd.below ?_ (by with_reducible assumption))))
  have z : K.Own (w.alloc o0) (w.heap.size) [.slice none 0 0] := by have h := K.Own.new w #[.slice none 0 0] 40; rw [ho0]; exact h
  have bb : Below w.heap.size w (w.alloc o0) := by (repeat (first | exact Below.refl _ _ | assumption | (refine K.below_drewN ?_ _) | (refine Below.drew ?_) | (refine Below.alloc ?_ (by first | (simp; done) | (simp; omega) | omega) _) | (refine Below.setCell ?_ (by first | (simp; done) | (simp; omega) | omega) _)))
  subst ho0
  have HS0 := Lib.hid (fun w h  => Sys.s_sys A c l w hl hs hc hcc h)
  cases hok0 : M.sysOk l with
  | false =>
    rw [M.properOf_no (fun h => by have h := h; rw [hok0] at h; cases h)]
    rw [hok0] at HS0
    clear hok0
    go_enter Try.func31, Try.ntmps31
    have pz := z.c1.2.2
    go_wp2_with fail
    refine (HS0.out _ r).mono ?_
    rintro e w1 ⟨rfl, b1⟩
    clear pz
    replace r := r.below b1
    replace z := z.below b1
    replace bb := bb.trans (b1.mono bb.size)
    clear b1
    obtain ⟨z1, z2, z3⟩ := z.c1
    go_wp2_with fail
    exact bodyPost_ret (v := .tuple #[.agg #[.slice none 0 0], .bool false]) (by simp [results, Try.results31, go_sem, z1]) rfl ⟨none, 0, rfl, K.Row.nil _ _ _ _, bb.setCell (by simp; try omega) _⟩
  | true =>
    rw [hok0] at HS0
    rw [M.properOf_yes hok0]
    have HP := Lib.hid (fun w h => Proper.s_proper A c l v w hok0 hv hs hc hcc h)
    generalize M.proper l v = R at HP ⊢
    clear hok0
    go_enter Try.func31, Try.ntmps31
    have pz := z.c1.2.2
    go_wp2_with fail
    refine (HS0.out _ r).mono ?_
    rintro e w1 ⟨rfl, b1⟩
    clear pz
    replace r := r.below b1
    replace z := z.below b1
    replace bb := bb.trans (b1.mono bb.size)
    clear b1
    have pz := z.c1.2.2
    go_wp2_with fail
    refine (HP.out _ r).mono ?_
    rintro e w2 ⟨X, m, rfl, row, b2⟩
    clear pz
    have hlt := row.lt
    have rw0 := row.more (lo' := w.heap.size) bb.size
    have h0 := bb.size
    have bbz := bb.trans (b2.mono bb.size)
    have hz0 := bbz.size
    obtain ⟨z1, z2, z3⟩ := (z.below b2).c1
    have hq0 := z.1.1
    have hq1 := b2.size
    go_wp2_with fail
    exact bodyPost_ret (v := .tuple #[.agg #[.slice X R.1.length m], .bool R.2]) (by simp [results, Try.results31, go_sem, *]) rfl ⟨X, m, rfl, by (repeat (first | with_reducible assumption | (with_reducible refine K.Row.setNe ?_ (fun g hg => by have hq := hlt g hg; simp at hq ⊢; omega) _) | (with_reducible refine K.Row.alloc ?_ _) | (with_reducible refine K.Row.drew ?_))), by (repeat (first | exact Below.refl _ _ | assumption | (refine K.below_drewN ?_ _) | (refine Below.drew ?_) | (refine Below.alloc ?_ (by first | (simp; done) | (simp; omega) | omega) _) | (refine Below.setCell ?_ (by first | (simp; done) | (simp; omega) | omega) _)))⟩
set_option maxHeartbeats 2000000 in
theorem i_sum (A : Option Addr) (c : Nat) (l : List M.Unit) (B : Option Addr) (d : Nat) (k : List Int) (B2 : Option Addr) (d2 : Nat) (k2 : List Int) (w : World) (hl : l.length ≤ 1048576) (hs : ∀ u ∈ l, u.name.size ≤ 9223372036854775807) (hc : l.length ≤ c) (hcc : c ≤ 9223372036854775807) (ha : K.Rd w 2 A l.length (l.flatMap M.unitCells)) (hk : k.length ≤ 1048576) (hb : K.Rd w 1 B k.length (k.map (Value.int .i64))) (hk2 : k2.length ≤ 1048576) (hb2 : K.Rd w 1 B2 k2.length (k2.map (Value.int .i64))) :
    Calls Try.prog 41 #[.slice A l.length c, .agg #[.slice B k.length d], .agg #[.slice B2 k2.length d2]] w (AmountH.RetAmountB w (M.sumOf l k k2).1 (M.sumOf l k k2).2) := by
  obtain ⟨o0, ho0⟩ : ∃ o : Obj, o = .cells #[.slice B k.length d] 40 := ⟨_, rfl⟩
  obtain ⟨o1, ho1⟩ : ∃ o : Obj, o = .cells #[.slice B2 k2.length d2] 40 := ⟨_, rfl⟩
  obtain ⟨o2, ho2⟩ : ∃ o : Obj, o = .cells #[.slice none 0 0] 40 := ⟨_, rfl⟩
  have r : K.Rd (((w.alloc o0).alloc o1).alloc o2) 2 A l.length (l.flatMap M.unitCells) := by (repeat (first | with_reducible assumption | (with_reducible refine K.Rd.alloc ?_ _) | (with_reducible refine K.Rd.drew ?_) | (with_reducible refine K.Rd.below ?_ (by with_reducible assumption))))
  have t : K.Rd (((w.alloc o0).alloc o1).alloc o2) 1 B k.length (k.map (Value.int .i64)) := by (repeat (first | with_reducible assumption | (with_reducible refine K.Rd.alloc ?_ _) | (with_reducible refine K.Rd.drew ?_) | (with_reducible refine K.Rd.below ?_ (by with_reducible assumption))))
  have t2 : K.Rd (((w.alloc o0).alloc o1).alloc o2) 1 B2 k2.length (k2.map (Value.int .i64)) := by (repeat (first | with_reducible assumption | (with_reducible refine K.Rd.alloc ?_ _) | (with_reducible refine K.Rd.drew ?_) | (with_reducible refine K.Rd.below ?_ (by with_reducible assumption))))
  have x : K.Box (w.alloc o0) (w.heap.size) [.slice B k.length d] := by have h := K.Box.new w #[.slice B k.length d] 40; rw [ho0]; exact h
  replace x := x.alloc o1
  replace x := x.alloc o2
  have x2 : K.Box ((w.alloc o0).alloc o1) (w.heap.size + 1) [.slice B2 k2.length d2] := by have h := K.Box.new (w.alloc o0) #[.slice B2 k2.length d2] 40; rw [World.size_alloc] at h; rw [ho1]; exact h
  replace x2 := x2.alloc o2
  have z : K.Own (((w.alloc o0).alloc o1).alloc o2) (w.heap.size + 1 + 1) [.slice none 0 0] := by have h := K.Own.new ((w.alloc o0).alloc o1) #[.slice none 0 0] 40; rw [World.size_alloc, World.size_alloc] at h; rw [ho2]; exact h
  have bb : Below w.heap.size w (((w.alloc o0).alloc o1).alloc o2) := by (repeat (first | exact Below.refl _ _ | assumption | (refine K.below_drewN ?_ _) | (refine Below.drew ?_) | (refine Below.alloc ?_ (by first | (simp; done) | (simp; omega) | omega) _) | (refine Below.setCell ?_ (by first | (simp; done) | (simp; omega) | omega) _)))
  subst ho0 ho1 ho2
  have HS0 := Lib.hid (fun w h h' => AmountF.i_amount A c l B d k w hl hk hs hc hcc h h')
  have HS1 := Lib.hid (fun w h h' => AmountF.i_amount A c l B2 d2 k2 w hl hk2 hs hc hcc h h')
  cases hok0 : M.amtOk l k with
  | false =>
    rw [M.sumOf_no (fun h => by have h := h.1; rw [hok0] at h; cases h)]
    rw [hok0] at HS0
    clear hok0
    go_enter Try.func41, Try.ntmps41
    have px := x.c1
    have gx := x.1
    have px2 := x2.c1
    have gx2 := x2.1
    have pz := z.c1.2.2
    go_wp2_with fail
    refine (HS0.out _ r t).mono ?_
    rintro e w1 ⟨rfl, b1⟩
    clear px gx px2 gx2 pz
    replace r := r.below b1
    replace t := t.below b1
    replace t2 := t2.below b1
    replace x := x.below b1
    replace x2 := x2.below b1
    replace z := z.below b1
    replace bb := bb.trans (b1.mono bb.size)
    clear b1
    obtain ⟨z1, z2, z3⟩ := z.c1
    clear x x2
    go_wp2_with fail
    exact bodyPost_ret (v := .tuple #[.agg #[.slice none 0 0], .bool false]) (by simp [results, Try.results41, go_sem, z1]) rfl ⟨none, 0, rfl, K.Row.nil _ _ _ _, bb.setCell (by simp; try omega) _⟩
  | true =>
    rw [hok0] at HS0
    cases hok1 : M.amtOk l k2 with
    | false =>
      rw [M.sumOf_no (fun h => by have h := h.2; rw [hok1] at h; cases h)]
      rw [hok1] at HS1
      clear hok1
      go_enter Try.func41, Try.ntmps41
      have px := x.c1
      have gx := x.1
      have px2 := x2.c1
      have gx2 := x2.1
      have pz := z.c1.2.2
      go_wp2_with fail
      refine (HS0.out _ r t).mono ?_
      rintro e w1 ⟨rfl, b1⟩
      clear px gx px2 gx2 pz
      replace r := r.below b1
      replace t := t.below b1
      replace t2 := t2.below b1
      replace x := x.below b1
      replace x2 := x2.below b1
      replace z := z.below b1
      replace bb := bb.trans (b1.mono bb.size)
      clear b1
      have px := x.c1
      have gx := x.1
      have px2 := x2.c1
      have gx2 := x2.1
      have pz := z.c1.2.2
      go_wp2_with fail
      refine (HS1.out _ r t2).mono ?_
      rintro e w2 ⟨rfl, b2⟩
      clear px gx px2 gx2 pz
      replace r := r.below b2
      replace t := t.below b2
      replace t2 := t2.below b2
      replace x := x.below b2
      replace x2 := x2.below b2
      replace z := z.below b2
      replace bb := bb.trans (b2.mono bb.size)
      clear b2
      obtain ⟨z1, z2, z3⟩ := z.c1
      clear x x2
      go_wp2_with fail
      exact bodyPost_ret (v := .tuple #[.agg #[.slice none 0 0], .bool false]) (by simp [results, Try.results41, go_sem, z1]) rfl ⟨none, 0, rfl, K.Row.nil _ _ _ _, bb.setCell (by simp; try omega) _⟩
    | true =>
      rw [hok1] at HS1
      rw [M.sumOf_yes hok0 hok1]
      have hsys := ((M.amtOk_iff l k).1 hok0).1
      have v1 := M.aV_total hok0
      have v2 := M.aV_total hok1
      have HV := Lib.hid (fun w h h' => Val.i_val A c l B d k w hok0 h h')
      have HW := Lib.hid (fun w h h' => Val.i_val A c l B2 d2 k2 w hok1 h h')
      obtain ⟨a, hva⟩ : ∃ a, a = M.aV l k := ⟨_, rfl⟩
      obtain ⟨b, hvb⟩ : ∃ b, b = M.aV l k2 := ⟨_, rfl⟩
      rw [← hva] at v1 HV ⊢
      rw [← hvb] at v2 HW ⊢
      have HP := Lib.hid (fun w h => Proper.i_proper A c l (a + b) w hsys (by omega) h)
      generalize M.proper l (a + b) = R at HP ⊢
      clear hok0 hok1 hva hvb hsys
      go_enter Try.func41, Try.ntmps41
      have px := x.c1
      have gx := x.1
      have px2 := x2.c1
      have gx2 := x2.1
      have pz := z.c1.2.2
      go_wp2_with fail
      refine (HS0.out _ r t).mono ?_
      rintro e w1 ⟨rfl, b1⟩
      clear px gx px2 gx2 pz
      replace r := r.below b1
      replace t := t.below b1
      replace t2 := t2.below b1
      replace x := x.below b1
      replace x2 := x2.below b1
      replace z := z.below b1
      replace bb := bb.trans (b1.mono bb.size)
      clear b1
      have px := x.c1
      have gx := x.1
      have px2 := x2.c1
      have gx2 := x2.1
      have pz := z.c1.2.2
      go_wp2_with fail
      refine (HS1.out _ r t2).mono ?_
      rintro e w2 ⟨rfl, b2⟩
      clear px gx px2 gx2 pz
      replace r := r.below b2
      replace t := t.below b2
      replace t2 := t2.below b2
      replace x := x.below b2
      replace x2 := x2.below b2
      replace z := z.below b2
      replace bb := bb.trans (b2.mono bb.size)
      clear b2
      have sw : IntKind.i64.wrap (a + b) = a + b := IntWalk.i64_in _ (by omega)
      have px := x.c1
      have gx := x.1
      have px2 := x2.c1
      have gx2 := x2.1
      have pz := z.c1.2.2
      go_wp2_with fail
      have BB := Lib.hid bb
      clear bb
      go_region_held3 (fun w' => w'.cell? ⟨w.heap.size, 0, none⟩ = some (.slice B k.length d) ∧ w'.cell? ⟨w.heap.size + 1, 0, none⟩ = some (.slice B2 k2.length d2))
        (first | (go_keep; done) | ((try dsimp only); refine ⟨?_, ?_⟩ <;> (first | (go_keep; done) | (refine K.Box.c1 ?_; (repeat (first | with_reducible assumption | (with_reducible refine K.Box.alloc ?_ _) | (with_reducible refine K.Box.drew ?_) | (with_reducible refine K.Box.setOther ?_ (by simp <;> omega) _) | (with_reducible refine K.Box.below ?_ (by with_reducible assumption))))))))
        (first | (go_at_call 70; ((with_reducible refine (HV.out _ (by (repeat (first | with_reducible assumption | (with_reducible refine K.Rd.alloc ?_ _) | (with_reducible refine K.Rd.drew ?_) | (with_reducible refine K.Rd.below ?_ (by with_reducible assumption))))) (by (repeat (first | with_reducible assumption | (with_reducible refine K.Rd.alloc ?_ _) | (with_reducible refine K.Rd.drew ?_) | (with_reducible refine K.Rd.below ?_ (by with_reducible assumption)))))).mono ?_)); rintro e w3 ⟨rfl, b3⟩; have z3 : K.Own w3 (w.heap.size + 1 + 1) [.slice none 0 0] := (by (repeat (first | with_reducible assumption | (with_reducible refine K.Own.alloc ?_ _) | (with_reducible refine K.Own.drew ?_) | (with_reducible refine K.Own.setOther ?_ (by simp <;> omega) _) | (with_reducible refine K.Own.below ?_ (by with_reducible assumption))))); have bb3 := Lib.hid (BB.out.drew.trans (b3.mono (by have hq := BB.out.size; simp <;> omega))); have s3 := b3.size; (try simp at s3)) | (go_at_call 70; ((with_reducible refine (HW.out _ (by (repeat (first | with_reducible assumption | (with_reducible refine K.Rd.alloc ?_ _) | (with_reducible refine K.Rd.drew ?_) | (with_reducible refine K.Rd.below ?_ (by with_reducible assumption))))) (by (repeat (first | with_reducible assumption | (with_reducible refine K.Rd.alloc ?_ _) | (with_reducible refine K.Rd.drew ?_) | (with_reducible refine K.Rd.below ?_ (by with_reducible assumption)))))).mono ?_)); rintro e w4 ⟨rfl, b4⟩; have z4 : K.Own w4 (w.heap.size + 1 + 1) [.slice none 0 0] := (by (repeat (first | with_reducible assumption | (with_reducible refine K.Own.alloc ?_ _) | (with_reducible refine K.Own.drew ?_) | (with_reducible refine K.Own.setOther ?_ (by simp <;> omega) _) | (with_reducible refine K.Own.below ?_ (by with_reducible assumption))))); have bb4 := Lib.hid (bb3.out.trans (b4.mono (by have hq := bb3.out.size; simp <;> omega))); have s4 := b4.size; (try simp at s4)) | (go_at_call 72; ((with_reducible refine (HP.out _ (by (repeat (first | with_reducible assumption | (with_reducible refine K.Rd.alloc ?_ _) | (with_reducible refine K.Rd.drew ?_) | (with_reducible refine K.Rd.below ?_ (by with_reducible assumption)))))).mono ?_)); rintro e w5 ⟨X, n, rfl, row, b5⟩; have z5 : K.Own w5 (w.heap.size + 1 + 1) [.slice none 0 0] := (by (repeat (first | with_reducible assumption | (with_reducible refine K.Own.alloc ?_ _) | (with_reducible refine K.Own.drew ?_) | (with_reducible refine K.Own.setOther ?_ (by simp <;> omega) _) | (with_reducible refine K.Own.below ?_ (by with_reducible assumption))))); have bb5 := Lib.hid (bb4.out.trans (b5.mono (by have hq := bb4.out.size; simp <;> omega))); have s5 := b5.size; (try simp at s5); have hlt := row.lt; (try simp at hlt); have rw0 := row.more (lo' := w.heap.size) (by have hq := bb4.out.size; simp <;> omega); obtain ⟨zc, zf, zl⟩ := z5.c1))
      all_goals
        obtain ⟨z1, z2, z3⟩ := z5.c1
        have h0 := BB.out.size
        have h3 := bb3.out.size
        have h4 := bb4.out.size
        have h5 := bb5.out.size
        have bbz := bb5.out
        go_wp2_with fail
      all_goals
        exact bodyPost_ret (v := .tuple #[.agg #[.slice X R.1.length n], .bool R.2]) (by first | (simp [results, Try.results41, go_sem]; done) | (simp [results, Try.results41, go_sem, z1]; done) | (simp [results, Try.results41, go_sem, z1, World.cell?_alloc_some]; done)) rfl ⟨X, n, rfl, by (repeat (first | with_reducible assumption | (with_reducible refine K.Row.setNe ?_ (fun g hg => by have hq := hlt g hg; simp at hq ⊢; omega) _) | (with_reducible refine K.Row.alloc ?_ _) | (with_reducible refine K.Row.drew ?_))), by (repeat (first | exact Below.refl _ _ | assumption | (refine K.below_drewN ?_ _) | (refine Below.drew ?_) | (refine Below.alloc ?_ (by first | (simp; done) | (simp; omega) | omega) _) | (refine Below.setCell ?_ (by first | (simp; done) | (simp; omega) | omega) _)))⟩
set_option maxHeartbeats 2000000 in
theorem s_sum (A : Option Addr) (c : Nat) (l : List M.Unit) (B : Option Addr) (d : Nat) (k : List Int) (B2 : Option Addr) (d2 : Nat) (k2 : List Int) (w : World) (hl : l.length ≤ 1048576) (hs : ∀ u ∈ l, u.name.size ≤ 9223372036854775807) (hc : l.length ≤ c) (hcc : c ≤ 9223372036854775807) (ha : K.Rd w 2 A l.length (l.flatMap M.unitCells)) (hk : k.length ≤ 1048576) (hb : K.Rd w 1 B k.length (k.map (Value.int .i64))) (hk2 : k2.length ≤ 1048576) (hb2 : K.Rd w 1 B2 k2.length (k2.map (Value.int .i64))) :
    Calls Try.prog 40 #[.slice A l.length c, .agg #[.slice B k.length d], .agg #[.slice B2 k2.length d2]] w (AmountH.RetAmountB w (M.sumOf l k k2).1 (M.sumOf l k k2).2) := by
  obtain ⟨o0, ho0⟩ : ∃ o : Obj, o = .cells #[.slice B k.length d] 40 := ⟨_, rfl⟩
  obtain ⟨o1, ho1⟩ : ∃ o : Obj, o = .cells #[.slice B2 k2.length d2] 40 := ⟨_, rfl⟩
  obtain ⟨o2, ho2⟩ : ∃ o : Obj, o = .cells #[.slice none 0 0] 40 := ⟨_, rfl⟩
  have r : K.Rd (((w.alloc o0).alloc o1).alloc o2) 2 A l.length (l.flatMap M.unitCells) := by (repeat (first | with_reducible assumption | (with_reducible refine K.Rd.alloc ?_ _) | (with_reducible refine K.Rd.drew ?_) | (with_reducible refine K.Rd.below ?_ (by with_reducible assumption))))
  have t : K.Rd (((w.alloc o0).alloc o1).alloc o2) 1 B k.length (k.map (Value.int .i64)) := by (repeat (first | with_reducible assumption | (with_reducible refine K.Rd.alloc ?_ _) | (with_reducible refine K.Rd.drew ?_) | (with_reducible refine K.Rd.below ?_ (by with_reducible assumption))))
  have t2 : K.Rd (((w.alloc o0).alloc o1).alloc o2) 1 B2 k2.length (k2.map (Value.int .i64)) := by (repeat (first | with_reducible assumption | (with_reducible refine K.Rd.alloc ?_ _) | (with_reducible refine K.Rd.drew ?_) | (with_reducible refine K.Rd.below ?_ (by with_reducible assumption))))
  have x : K.Box (w.alloc o0) (w.heap.size) [.slice B k.length d] := by have h := K.Box.new w #[.slice B k.length d] 40; rw [ho0]; exact h
  replace x := x.alloc o1
  replace x := x.alloc o2
  have x2 : K.Box ((w.alloc o0).alloc o1) (w.heap.size + 1) [.slice B2 k2.length d2] := by have h := K.Box.new (w.alloc o0) #[.slice B2 k2.length d2] 40; rw [World.size_alloc] at h; rw [ho1]; exact h
  replace x2 := x2.alloc o2
  have z : K.Own (((w.alloc o0).alloc o1).alloc o2) (w.heap.size + 1 + 1) [.slice none 0 0] := by have h := K.Own.new ((w.alloc o0).alloc o1) #[.slice none 0 0] 40; rw [World.size_alloc, World.size_alloc] at h; rw [ho2]; exact h
  have bb : Below w.heap.size w (((w.alloc o0).alloc o1).alloc o2) := by (repeat (first | exact Below.refl _ _ | assumption | (refine K.below_drewN ?_ _) | (refine Below.drew ?_) | (refine Below.alloc ?_ (by first | (simp; done) | (simp; omega) | omega) _) | (refine Below.setCell ?_ (by first | (simp; done) | (simp; omega) | omega) _)))
  subst ho0 ho1 ho2
  have HS0 := Lib.hid (fun w h h' => AmountF.s_amt A c l B d k w hl hk hs hc hcc h h')
  have HS1 := Lib.hid (fun w h h' => AmountF.s_amt A c l B2 d2 k2 w hl hk2 hs hc hcc h h')
  cases hok0 : M.amtOk l k with
  | false =>
    rw [M.sumOf_no (fun h => by have h := h.1; rw [hok0] at h; cases h)]
    rw [hok0] at HS0
    clear hok0
    go_enter Try.func40, Try.ntmps40
    have px := x.c1
    have gx := x.1
    have px2 := x2.c1
    have gx2 := x2.1
    have pz := z.c1.2.2
    go_wp2_with fail
    refine (HS0.out _ r t).mono ?_
    rintro e w1 ⟨rfl, b1⟩
    clear px gx px2 gx2 pz
    replace r := r.below b1
    replace t := t.below b1
    replace t2 := t2.below b1
    replace x := x.below b1
    replace x2 := x2.below b1
    replace z := z.below b1
    replace bb := bb.trans (b1.mono bb.size)
    clear b1
    obtain ⟨z1, z2, z3⟩ := z.c1
    clear x x2
    go_wp2_with fail
    exact bodyPost_ret (v := .tuple #[.agg #[.slice none 0 0], .bool false]) (by simp [results, Try.results40, go_sem, z1]) rfl ⟨none, 0, rfl, K.Row.nil _ _ _ _, bb.setCell (by simp; try omega) _⟩
  | true =>
    rw [hok0] at HS0
    cases hok1 : M.amtOk l k2 with
    | false =>
      rw [M.sumOf_no (fun h => by have h := h.2; rw [hok1] at h; cases h)]
      rw [hok1] at HS1
      clear hok1
      go_enter Try.func40, Try.ntmps40
      have px := x.c1
      have gx := x.1
      have px2 := x2.c1
      have gx2 := x2.1
      have pz := z.c1.2.2
      go_wp2_with fail
      refine (HS0.out _ r t).mono ?_
      rintro e w1 ⟨rfl, b1⟩
      clear px gx px2 gx2 pz
      replace r := r.below b1
      replace t := t.below b1
      replace t2 := t2.below b1
      replace x := x.below b1
      replace x2 := x2.below b1
      replace z := z.below b1
      replace bb := bb.trans (b1.mono bb.size)
      clear b1
      have px := x.c1
      have gx := x.1
      have px2 := x2.c1
      have gx2 := x2.1
      have pz := z.c1.2.2
      go_wp2_with fail
      refine (HS1.out _ r t2).mono ?_
      rintro e w2 ⟨rfl, b2⟩
      clear px gx px2 gx2 pz
      replace r := r.below b2
      replace t := t.below b2
      replace t2 := t2.below b2
      replace x := x.below b2
      replace x2 := x2.below b2
      replace z := z.below b2
      replace bb := bb.trans (b2.mono bb.size)
      clear b2
      obtain ⟨z1, z2, z3⟩ := z.c1
      clear x x2
      go_wp2_with fail
      exact bodyPost_ret (v := .tuple #[.agg #[.slice none 0 0], .bool false]) (by simp [results, Try.results40, go_sem, z1]) rfl ⟨none, 0, rfl, K.Row.nil _ _ _ _, bb.setCell (by simp; try omega) _⟩
    | true =>
      rw [hok1] at HS1
      rw [M.sumOf_yes hok0 hok1]
      have hsys := ((M.amtOk_iff l k).1 hok0).1
      have v1 := M.aV_total hok0
      have v2 := M.aV_total hok1
      have HV := Lib.hid (fun w h h' => Val.s_val A c l B d k w hok0 h h')
      have HW := Lib.hid (fun w h h' => Val.s_val A c l B2 d2 k2 w hok1 h h')
      obtain ⟨a, hva⟩ : ∃ a, a = M.aV l k := ⟨_, rfl⟩
      obtain ⟨b, hvb⟩ : ∃ b, b = M.aV l k2 := ⟨_, rfl⟩
      rw [← hva] at v1 HV ⊢
      rw [← hvb] at v2 HW ⊢
      have HP := Lib.hid (fun w h => Proper.s_proper A c l (a + b) w hsys (by omega) hs hc hcc h)
      generalize M.proper l (a + b) = R at HP ⊢
      clear hok0 hok1 hva hvb hsys
      go_enter Try.func40, Try.ntmps40
      have px := x.c1
      have gx := x.1
      have px2 := x2.c1
      have gx2 := x2.1
      have pz := z.c1.2.2
      go_wp2_with fail
      refine (HS0.out _ r t).mono ?_
      rintro e w1 ⟨rfl, b1⟩
      clear px gx px2 gx2 pz
      replace r := r.below b1
      replace t := t.below b1
      replace t2 := t2.below b1
      replace x := x.below b1
      replace x2 := x2.below b1
      replace z := z.below b1
      replace bb := bb.trans (b1.mono bb.size)
      clear b1
      have px := x.c1
      have gx := x.1
      have px2 := x2.c1
      have gx2 := x2.1
      have pz := z.c1.2.2
      go_wp2_with fail
      refine (HS1.out _ r t2).mono ?_
      rintro e w2 ⟨rfl, b2⟩
      clear px gx px2 gx2 pz
      replace r := r.below b2
      replace t := t.below b2
      replace t2 := t2.below b2
      replace x := x.below b2
      replace x2 := x2.below b2
      replace z := z.below b2
      replace bb := bb.trans (b2.mono bb.size)
      clear b2
      have sw : IntKind.i64.wrap (a + b) = a + b := IntWalk.i64_in _ (by omega)
      have px := x.c1
      have gx := x.1
      have px2 := x2.c1
      have gx2 := x2.1
      have pz := z.c1.2.2
      go_wp2_with fail
      have BB := Lib.hid bb
      clear bb
      go_region_held3 (fun w' => w'.cell? ⟨w.heap.size, 0, none⟩ = some (.slice B k.length d) ∧ w'.cell? ⟨w.heap.size + 1, 0, none⟩ = some (.slice B2 k2.length d2))
        (first | (go_keep; done) | ((try dsimp only); refine ⟨?_, ?_⟩ <;> (first | (go_keep; done) | (refine K.Box.c1 ?_; (repeat (first | with_reducible assumption | (with_reducible refine K.Box.alloc ?_ _) | (with_reducible refine K.Box.drew ?_) | (with_reducible refine K.Box.setOther ?_ (by simp <;> omega) _) | (with_reducible refine K.Box.below ?_ (by with_reducible assumption))))))))
        (first | (go_at_call 69; first | (((with_reducible refine (HV.out (w2.alloc (.cells #[.slice none 0 0] 40)).drew (by (repeat (first | with_reducible assumption | (with_reducible refine K.Rd.alloc ?_ _) | (with_reducible refine K.Rd.drew ?_) | (with_reducible refine K.Rd.below ?_ (by with_reducible assumption))))) (by (repeat (first | with_reducible assumption | (with_reducible refine K.Rd.alloc ?_ _) | (with_reducible refine K.Rd.drew ?_) | (with_reducible refine K.Rd.below ?_ (by with_reducible assumption)))))).mono ?_)); rintro e w3 ⟨rfl, b3⟩; have ow := (K.Own.new w2 #[.slice none 0 0] 40).drew.below b3; obtain ⟨cw, fw, lw⟩ := ow.c1; have z3 : K.Own w3 (w.heap.size + 1 + 1) [.slice none 0 0] := (by (repeat (first | with_reducible assumption | (with_reducible refine K.Own.alloc ?_ _) | (with_reducible refine K.Own.drew ?_) | (with_reducible refine K.Own.setOther ?_ (by simp <;> omega) _) | (with_reducible refine K.Own.below ?_ (by with_reducible assumption))))); have bb3 := Lib.hid (((BB.out.alloc BB.out.size (.cells #[.slice none 0 0] 40)).drew).trans (b3.mono (by have hq := BB.out.size; simp <;> omega))); have s3 := b3.size; (try simp at s3)) | (((with_reducible refine (HV.out _ (by (repeat (first | with_reducible assumption | (with_reducible refine K.Rd.alloc ?_ _) | (with_reducible refine K.Rd.drew ?_) | (with_reducible refine K.Rd.below ?_ (by with_reducible assumption))))) (by (repeat (first | with_reducible assumption | (with_reducible refine K.Rd.alloc ?_ _) | (with_reducible refine K.Rd.drew ?_) | (with_reducible refine K.Rd.below ?_ (by with_reducible assumption)))))).mono ?_)); rintro e w3 ⟨rfl, b3⟩; (try (replace ow := ow.below b3; obtain ⟨cw, fw, lw⟩ := ow.c1)); have z3 : K.Own w3 (w.heap.size + 1 + 1) [.slice none 0 0] := (by (repeat (first | with_reducible assumption | (with_reducible refine K.Own.alloc ?_ _) | (with_reducible refine K.Own.drew ?_) | (with_reducible refine K.Own.setOther ?_ (by simp <;> omega) _) | (with_reducible refine K.Own.below ?_ (by with_reducible assumption))))); have bb3 := Lib.hid (BB.out.drew.trans (b3.mono (by have hq := BB.out.size; simp <;> omega))); have s3 := b3.size; (try simp at s3))) | (go_at_call 69; first | (((with_reducible refine (HW.out (w3.alloc (.cells #[.slice none 0 0] 40)) (by (repeat (first | with_reducible assumption | (with_reducible refine K.Rd.alloc ?_ _) | (with_reducible refine K.Rd.drew ?_) | (with_reducible refine K.Rd.below ?_ (by with_reducible assumption))))) (by (repeat (first | with_reducible assumption | (with_reducible refine K.Rd.alloc ?_ _) | (with_reducible refine K.Rd.drew ?_) | (with_reducible refine K.Rd.below ?_ (by with_reducible assumption)))))).mono ?_)); rintro e w4 ⟨rfl, b4⟩; have ow := (K.Own.new w3 #[.slice none 0 0] 40).below b4; obtain ⟨cw, fw, lw⟩ := ow.c1; have z4 : K.Own w4 (w.heap.size + 1 + 1) [.slice none 0 0] := (by (repeat (first | with_reducible assumption | (with_reducible refine K.Own.alloc ?_ _) | (with_reducible refine K.Own.drew ?_) | (with_reducible refine K.Own.setOther ?_ (by simp <;> omega) _) | (with_reducible refine K.Own.below ?_ (by with_reducible assumption))))); have bb4 := Lib.hid (((bb3.out.alloc bb3.out.size (.cells #[.slice none 0 0] 40))).trans (b4.mono (by have hq := bb3.out.size; simp <;> omega))); have s4 := b4.size; (try simp at s4)) | (((with_reducible refine (HW.out _ (by (repeat (first | with_reducible assumption | (with_reducible refine K.Rd.alloc ?_ _) | (with_reducible refine K.Rd.drew ?_) | (with_reducible refine K.Rd.below ?_ (by with_reducible assumption))))) (by (repeat (first | with_reducible assumption | (with_reducible refine K.Rd.alloc ?_ _) | (with_reducible refine K.Rd.drew ?_) | (with_reducible refine K.Rd.below ?_ (by with_reducible assumption)))))).mono ?_)); rintro e w4 ⟨rfl, b4⟩; (try (replace ow := ow.below b4; obtain ⟨cw, fw, lw⟩ := ow.c1)); have z4 : K.Own w4 (w.heap.size + 1 + 1) [.slice none 0 0] := (by (repeat (first | with_reducible assumption | (with_reducible refine K.Own.alloc ?_ _) | (with_reducible refine K.Own.drew ?_) | (with_reducible refine K.Own.setOther ?_ (by simp <;> omega) _) | (with_reducible refine K.Own.below ?_ (by with_reducible assumption))))); have bb4 := Lib.hid (bb3.out.trans (b4.mono (by have hq := bb3.out.size; simp <;> omega))); have s4 := b4.size; (try simp at s4))) | (go_at_call 71; first | (((with_reducible refine (HP.out (w4.alloc (.cells #[.slice none 0 0] 40)) (by (repeat (first | with_reducible assumption | (with_reducible refine K.Rd.alloc ?_ _) | (with_reducible refine K.Rd.drew ?_) | (with_reducible refine K.Rd.below ?_ (by with_reducible assumption)))))).mono ?_)); rintro e w5 ⟨X, n, rfl, row, b5⟩; have ow := (K.Own.new w4 #[.slice none 0 0] 40).below b5; obtain ⟨cw, fw, lw⟩ := ow.c1; have z5 : K.Own w5 (w.heap.size + 1 + 1) [.slice none 0 0] := (by (repeat (first | with_reducible assumption | (with_reducible refine K.Own.alloc ?_ _) | (with_reducible refine K.Own.drew ?_) | (with_reducible refine K.Own.setOther ?_ (by simp <;> omega) _) | (with_reducible refine K.Own.below ?_ (by with_reducible assumption))))); have bb5 := Lib.hid (((bb4.out.alloc bb4.out.size (.cells #[.slice none 0 0] 40))).trans (b5.mono (by have hq := bb4.out.size; simp <;> omega))); have s5 := b5.size; (try simp at s5); have hlt := row.lt; (try simp at hlt); have rw0 := row.more (lo' := w.heap.size) (by have hq := bb4.out.size; simp <;> omega); obtain ⟨zc, zf, zl⟩ := z5.c1) | (((with_reducible refine (HP.out _ (by (repeat (first | with_reducible assumption | (with_reducible refine K.Rd.alloc ?_ _) | (with_reducible refine K.Rd.drew ?_) | (with_reducible refine K.Rd.below ?_ (by with_reducible assumption)))))).mono ?_)); rintro e w5 ⟨X, n, rfl, row, b5⟩; (try (replace ow := ow.below b5; obtain ⟨cw, fw, lw⟩ := ow.c1)); have z5 : K.Own w5 (w.heap.size + 1 + 1) [.slice none 0 0] := (by (repeat (first | with_reducible assumption | (with_reducible refine K.Own.alloc ?_ _) | (with_reducible refine K.Own.drew ?_) | (with_reducible refine K.Own.setOther ?_ (by simp <;> omega) _) | (with_reducible refine K.Own.below ?_ (by with_reducible assumption))))); have bb5 := Lib.hid (bb4.out.trans (b5.mono (by have hq := bb4.out.size; simp <;> omega))); have s5 := b5.size; (try simp at s5); have hlt := row.lt; (try simp at hlt); have rw0 := row.more (lo' := w.heap.size) (by have hq := bb4.out.size; simp <;> omega); obtain ⟨zc, zf, zl⟩ := z5.c1)))
      all_goals
        obtain ⟨z1, z2, z3⟩ := z5.c1
        have h0 := BB.out.size
        have h3 := bb3.out.size
        have h4 := bb4.out.size
        have h5 := bb5.out.size
        have bbz := bb5.out
        go_wp2_with fail
      all_goals
        exact bodyPost_ret (v := .tuple #[.agg #[.slice X R.1.length n], .bool R.2]) (by first | (simp [results, Try.results40, go_sem]; done) | (simp [results, Try.results40, go_sem, z1]; done) | (simp [results, Try.results40, go_sem, z1, World.cell?_alloc_some]; done)) rfl ⟨X, n, rfl, by (repeat (first | with_reducible assumption | (with_reducible refine K.Row.setNe ?_ (fun g hg => by have hq := hlt g hg; simp at hq ⊢; omega) _) | (with_reducible refine K.Row.alloc ?_ _) | (with_reducible refine K.Row.drew ?_))), by (repeat (first | exact Below.refl _ _ | assumption | (refine K.below_drewN ?_ _) | (refine Below.drew ?_) | (refine Below.alloc ?_ (by first | (simp; done) | (simp; omega) | omega) _) | (refine Below.setCell ?_ (by first | (simp; done) | (simp; omega) | omega) _)))⟩
set_option maxHeartbeats 2000000 in
theorem i_diff (A : Option Addr) (c : Nat) (l : List M.Unit) (B : Option Addr) (d : Nat) (k : List Int) (B2 : Option Addr) (d2 : Nat) (k2 : List Int) (w : World) (hl : l.length ≤ 1048576) (hs : ∀ u ∈ l, u.name.size ≤ 9223372036854775807) (hc : l.length ≤ c) (hcc : c ≤ 9223372036854775807) (ha : K.Rd w 2 A l.length (l.flatMap M.unitCells)) (hk : k.length ≤ 1048576) (hb : K.Rd w 1 B k.length (k.map (Value.int .i64))) (hk2 : k2.length ≤ 1048576) (hb2 : K.Rd w 1 B2 k2.length (k2.map (Value.int .i64))) :
    Calls Try.prog 39 #[.slice A l.length c, .agg #[.slice B k.length d], .agg #[.slice B2 k2.length d2]] w (AmountH.RetAmountB w (M.diffOf l k k2).1 (M.diffOf l k k2).2) := by
  obtain ⟨o0, ho0⟩ : ∃ o : Obj, o = .cells #[.slice B k.length d] 40 := ⟨_, rfl⟩
  obtain ⟨o1, ho1⟩ : ∃ o : Obj, o = .cells #[.slice B2 k2.length d2] 40 := ⟨_, rfl⟩
  obtain ⟨o2, ho2⟩ : ∃ o : Obj, o = .cells #[.slice none 0 0] 40 := ⟨_, rfl⟩
  have r : K.Rd (((w.alloc o0).alloc o1).alloc o2) 2 A l.length (l.flatMap M.unitCells) := by (repeat (first | with_reducible assumption | (with_reducible refine K.Rd.alloc ?_ _) | (with_reducible refine K.Rd.drew ?_) | (with_reducible refine K.Rd.below ?_ (by with_reducible assumption))))
  have t : K.Rd (((w.alloc o0).alloc o1).alloc o2) 1 B k.length (k.map (Value.int .i64)) := by (repeat (first | with_reducible assumption | (with_reducible refine K.Rd.alloc ?_ _) | (with_reducible refine K.Rd.drew ?_) | (with_reducible refine K.Rd.below ?_ (by with_reducible assumption))))
  have t2 : K.Rd (((w.alloc o0).alloc o1).alloc o2) 1 B2 k2.length (k2.map (Value.int .i64)) := by (repeat (first | with_reducible assumption | (with_reducible refine K.Rd.alloc ?_ _) | (with_reducible refine K.Rd.drew ?_) | (with_reducible refine K.Rd.below ?_ (by with_reducible assumption))))
  have x : K.Box (w.alloc o0) (w.heap.size) [.slice B k.length d] := by have h := K.Box.new w #[.slice B k.length d] 40; rw [ho0]; exact h
  replace x := x.alloc o1
  replace x := x.alloc o2
  have x2 : K.Box ((w.alloc o0).alloc o1) (w.heap.size + 1) [.slice B2 k2.length d2] := by have h := K.Box.new (w.alloc o0) #[.slice B2 k2.length d2] 40; rw [World.size_alloc] at h; rw [ho1]; exact h
  replace x2 := x2.alloc o2
  have z : K.Own (((w.alloc o0).alloc o1).alloc o2) (w.heap.size + 1 + 1) [.slice none 0 0] := by have h := K.Own.new ((w.alloc o0).alloc o1) #[.slice none 0 0] 40; rw [World.size_alloc, World.size_alloc] at h; rw [ho2]; exact h
  have bb : Below w.heap.size w (((w.alloc o0).alloc o1).alloc o2) := by (repeat (first | exact Below.refl _ _ | assumption | (refine K.below_drewN ?_ _) | (refine Below.drew ?_) | (refine Below.alloc ?_ (by first | (simp; done) | (simp; omega) | omega) _) | (refine Below.setCell ?_ (by first | (simp; done) | (simp; omega) | omega) _)))
  subst ho0 ho1 ho2
  have HS0 := Lib.hid (fun w h h' => AmountF.i_amount A c l B d k w hl hk hs hc hcc h h')
  have HS1 := Lib.hid (fun w h h' => AmountF.i_amount A c l B2 d2 k2 w hl hk2 hs hc hcc h h')
  cases hok0 : M.amtOk l k with
  | false =>
    rw [M.diffOf_no (fun h => by have h := h.1; rw [hok0] at h; cases h)]
    rw [hok0] at HS0
    clear hok0
    go_enter Try.func39, Try.ntmps39
    have px := x.c1
    have gx := x.1
    have px2 := x2.c1
    have gx2 := x2.1
    have pz := z.c1.2.2
    go_wp2_with fail
    refine (HS0.out _ r t).mono ?_
    rintro e w1 ⟨rfl, b1⟩
    clear px gx px2 gx2 pz
    replace r := r.below b1
    replace t := t.below b1
    replace t2 := t2.below b1
    replace x := x.below b1
    replace x2 := x2.below b1
    replace z := z.below b1
    replace bb := bb.trans (b1.mono bb.size)
    clear b1
    obtain ⟨z1, z2, z3⟩ := z.c1
    clear x x2
    go_wp2_with fail
    exact bodyPost_ret (v := .tuple #[.agg #[.slice none 0 0], .bool false]) (by simp [results, Try.results39, go_sem, z1]) rfl ⟨none, 0, rfl, K.Row.nil _ _ _ _, bb.setCell (by simp; try omega) _⟩
  | true =>
    rw [hok0] at HS0
    cases hok1 : M.amtOk l k2 with
    | false =>
      rw [M.diffOf_no (fun h => by have h := h.2; rw [hok1] at h; cases h)]
      rw [hok1] at HS1
      clear hok1
      go_enter Try.func39, Try.ntmps39
      have px := x.c1
      have gx := x.1
      have px2 := x2.c1
      have gx2 := x2.1
      have pz := z.c1.2.2
      go_wp2_with fail
      refine (HS0.out _ r t).mono ?_
      rintro e w1 ⟨rfl, b1⟩
      clear px gx px2 gx2 pz
      replace r := r.below b1
      replace t := t.below b1
      replace t2 := t2.below b1
      replace x := x.below b1
      replace x2 := x2.below b1
      replace z := z.below b1
      replace bb := bb.trans (b1.mono bb.size)
      clear b1
      have px := x.c1
      have gx := x.1
      have px2 := x2.c1
      have gx2 := x2.1
      have pz := z.c1.2.2
      go_wp2_with fail
      refine (HS1.out _ r t2).mono ?_
      rintro e w2 ⟨rfl, b2⟩
      clear px gx px2 gx2 pz
      replace r := r.below b2
      replace t := t.below b2
      replace t2 := t2.below b2
      replace x := x.below b2
      replace x2 := x2.below b2
      replace z := z.below b2
      replace bb := bb.trans (b2.mono bb.size)
      clear b2
      obtain ⟨z1, z2, z3⟩ := z.c1
      clear x x2
      go_wp2_with fail
      exact bodyPost_ret (v := .tuple #[.agg #[.slice none 0 0], .bool false]) (by simp [results, Try.results39, go_sem, z1]) rfl ⟨none, 0, rfl, K.Row.nil _ _ _ _, bb.setCell (by simp; try omega) _⟩
    | true =>
      rw [hok1] at HS1
      rw [M.diffOf_yes hok0 hok1]
      have hsys := ((M.amtOk_iff l k).1 hok0).1
      have v1 := M.aV_total hok0
      have v2 := M.aV_total hok1
      have HV := Lib.hid (fun w h h' => Val.i_val A c l B d k w hok0 h h')
      have HW := Lib.hid (fun w h h' => Val.i_val A c l B2 d2 k2 w hok1 h h')
      obtain ⟨a, hva⟩ : ∃ a, a = M.aV l k := ⟨_, rfl⟩
      obtain ⟨b, hvb⟩ : ∃ b, b = M.aV l k2 := ⟨_, rfl⟩
      rw [← hva] at v1 HV ⊢
      rw [← hvb] at v2 HW ⊢
      have HP := Lib.hid (fun w h => Proper.i_proper A c l (a - b) w hsys (by omega) h)
      generalize M.proper l (a - b) = R at HP ⊢
      clear hok0 hok1 hva hvb hsys
      go_enter Try.func39, Try.ntmps39
      have px := x.c1
      have gx := x.1
      have px2 := x2.c1
      have gx2 := x2.1
      have pz := z.c1.2.2
      go_wp2_with fail
      refine (HS0.out _ r t).mono ?_
      rintro e w1 ⟨rfl, b1⟩
      clear px gx px2 gx2 pz
      replace r := r.below b1
      replace t := t.below b1
      replace t2 := t2.below b1
      replace x := x.below b1
      replace x2 := x2.below b1
      replace z := z.below b1
      replace bb := bb.trans (b1.mono bb.size)
      clear b1
      have px := x.c1
      have gx := x.1
      have px2 := x2.c1
      have gx2 := x2.1
      have pz := z.c1.2.2
      go_wp2_with fail
      refine (HS1.out _ r t2).mono ?_
      rintro e w2 ⟨rfl, b2⟩
      clear px gx px2 gx2 pz
      replace r := r.below b2
      replace t := t.below b2
      replace t2 := t2.below b2
      replace x := x.below b2
      replace x2 := x2.below b2
      replace z := z.below b2
      replace bb := bb.trans (b2.mono bb.size)
      clear b2
      have sw : IntKind.i64.wrap (a - b) = a - b := IntWalk.i64_in _ (by omega)
      have px := x.c1
      have gx := x.1
      have px2 := x2.c1
      have gx2 := x2.1
      have pz := z.c1.2.2
      go_wp2_with fail
      have BB := Lib.hid bb
      clear bb
      go_region_held3 (fun w' => w'.cell? ⟨w.heap.size, 0, none⟩ = some (.slice B k.length d) ∧ w'.cell? ⟨w.heap.size + 1, 0, none⟩ = some (.slice B2 k2.length d2))
        (first | (go_keep; done) | ((try dsimp only); refine ⟨?_, ?_⟩ <;> (first | (go_keep; done) | (refine K.Box.c1 ?_; (repeat (first | with_reducible assumption | (with_reducible refine K.Box.alloc ?_ _) | (with_reducible refine K.Box.drew ?_) | (with_reducible refine K.Box.setOther ?_ (by simp <;> omega) _) | (with_reducible refine K.Box.below ?_ (by with_reducible assumption))))))))
        (first | (go_at_call 70; ((with_reducible refine (HV.out _ (by (repeat (first | with_reducible assumption | (with_reducible refine K.Rd.alloc ?_ _) | (with_reducible refine K.Rd.drew ?_) | (with_reducible refine K.Rd.below ?_ (by with_reducible assumption))))) (by (repeat (first | with_reducible assumption | (with_reducible refine K.Rd.alloc ?_ _) | (with_reducible refine K.Rd.drew ?_) | (with_reducible refine K.Rd.below ?_ (by with_reducible assumption)))))).mono ?_)); rintro e w3 ⟨rfl, b3⟩; have z3 : K.Own w3 (w.heap.size + 1 + 1) [.slice none 0 0] := (by (repeat (first | with_reducible assumption | (with_reducible refine K.Own.alloc ?_ _) | (with_reducible refine K.Own.drew ?_) | (with_reducible refine K.Own.setOther ?_ (by simp <;> omega) _) | (with_reducible refine K.Own.below ?_ (by with_reducible assumption))))); have bb3 := Lib.hid (BB.out.drew.trans (b3.mono (by have hq := BB.out.size; simp <;> omega))); have s3 := b3.size; (try simp at s3)) | (go_at_call 70; ((with_reducible refine (HW.out _ (by (repeat (first | with_reducible assumption | (with_reducible refine K.Rd.alloc ?_ _) | (with_reducible refine K.Rd.drew ?_) | (with_reducible refine K.Rd.below ?_ (by with_reducible assumption))))) (by (repeat (first | with_reducible assumption | (with_reducible refine K.Rd.alloc ?_ _) | (with_reducible refine K.Rd.drew ?_) | (with_reducible refine K.Rd.below ?_ (by with_reducible assumption)))))).mono ?_)); rintro e w4 ⟨rfl, b4⟩; have z4 : K.Own w4 (w.heap.size + 1 + 1) [.slice none 0 0] := (by (repeat (first | with_reducible assumption | (with_reducible refine K.Own.alloc ?_ _) | (with_reducible refine K.Own.drew ?_) | (with_reducible refine K.Own.setOther ?_ (by simp <;> omega) _) | (with_reducible refine K.Own.below ?_ (by with_reducible assumption))))); have bb4 := Lib.hid (bb3.out.trans (b4.mono (by have hq := bb3.out.size; simp <;> omega))); have s4 := b4.size; (try simp at s4)) | (go_at_call 72; ((with_reducible refine (HP.out _ (by (repeat (first | with_reducible assumption | (with_reducible refine K.Rd.alloc ?_ _) | (with_reducible refine K.Rd.drew ?_) | (with_reducible refine K.Rd.below ?_ (by with_reducible assumption)))))).mono ?_)); rintro e w5 ⟨X, n, rfl, row, b5⟩; have z5 : K.Own w5 (w.heap.size + 1 + 1) [.slice none 0 0] := (by (repeat (first | with_reducible assumption | (with_reducible refine K.Own.alloc ?_ _) | (with_reducible refine K.Own.drew ?_) | (with_reducible refine K.Own.setOther ?_ (by simp <;> omega) _) | (with_reducible refine K.Own.below ?_ (by with_reducible assumption))))); have bb5 := Lib.hid (bb4.out.trans (b5.mono (by have hq := bb4.out.size; simp <;> omega))); have s5 := b5.size; (try simp at s5); have hlt := row.lt; (try simp at hlt); have rw0 := row.more (lo' := w.heap.size) (by have hq := bb4.out.size; simp <;> omega); obtain ⟨zc, zf, zl⟩ := z5.c1))
      all_goals
        obtain ⟨z1, z2, z3⟩ := z5.c1
        have h0 := BB.out.size
        have h3 := bb3.out.size
        have h4 := bb4.out.size
        have h5 := bb5.out.size
        have bbz := bb5.out
        go_wp2_with fail
      all_goals
        exact bodyPost_ret (v := .tuple #[.agg #[.slice X R.1.length n], .bool R.2]) (by first | (simp [results, Try.results39, go_sem]; done) | (simp [results, Try.results39, go_sem, z1]; done) | (simp [results, Try.results39, go_sem, z1, World.cell?_alloc_some]; done)) rfl ⟨X, n, rfl, by (repeat (first | with_reducible assumption | (with_reducible refine K.Row.setNe ?_ (fun g hg => by have hq := hlt g hg; simp at hq ⊢; omega) _) | (with_reducible refine K.Row.alloc ?_ _) | (with_reducible refine K.Row.drew ?_))), by (repeat (first | exact Below.refl _ _ | assumption | (refine K.below_drewN ?_ _) | (refine Below.drew ?_) | (refine Below.alloc ?_ (by first | (simp; done) | (simp; omega) | omega) _) | (refine Below.setCell ?_ (by first | (simp; done) | (simp; omega) | omega) _)))⟩
set_option maxHeartbeats 2000000 in
theorem s_diff (A : Option Addr) (c : Nat) (l : List M.Unit) (B : Option Addr) (d : Nat) (k : List Int) (B2 : Option Addr) (d2 : Nat) (k2 : List Int) (w : World) (hl : l.length ≤ 1048576) (hs : ∀ u ∈ l, u.name.size ≤ 9223372036854775807) (hc : l.length ≤ c) (hcc : c ≤ 9223372036854775807) (ha : K.Rd w 2 A l.length (l.flatMap M.unitCells)) (hk : k.length ≤ 1048576) (hb : K.Rd w 1 B k.length (k.map (Value.int .i64))) (hk2 : k2.length ≤ 1048576) (hb2 : K.Rd w 1 B2 k2.length (k2.map (Value.int .i64))) :
    Calls Try.prog 38 #[.slice A l.length c, .agg #[.slice B k.length d], .agg #[.slice B2 k2.length d2]] w (AmountH.RetAmountB w (M.diffOf l k k2).1 (M.diffOf l k k2).2) := by
  obtain ⟨o0, ho0⟩ : ∃ o : Obj, o = .cells #[.slice B k.length d] 40 := ⟨_, rfl⟩
  obtain ⟨o1, ho1⟩ : ∃ o : Obj, o = .cells #[.slice B2 k2.length d2] 40 := ⟨_, rfl⟩
  obtain ⟨o2, ho2⟩ : ∃ o : Obj, o = .cells #[.slice none 0 0] 40 := ⟨_, rfl⟩
  have r : K.Rd (((w.alloc o0).alloc o1).alloc o2) 2 A l.length (l.flatMap M.unitCells) := by (repeat (first | with_reducible assumption | (with_reducible refine K.Rd.alloc ?_ _) | (with_reducible refine K.Rd.drew ?_) | (with_reducible refine K.Rd.below ?_ (by with_reducible assumption))))
  have t : K.Rd (((w.alloc o0).alloc o1).alloc o2) 1 B k.length (k.map (Value.int .i64)) := by (repeat (first | with_reducible assumption | (with_reducible refine K.Rd.alloc ?_ _) | (with_reducible refine K.Rd.drew ?_) | (with_reducible refine K.Rd.below ?_ (by with_reducible assumption))))
  have t2 : K.Rd (((w.alloc o0).alloc o1).alloc o2) 1 B2 k2.length (k2.map (Value.int .i64)) := by (repeat (first | with_reducible assumption | (with_reducible refine K.Rd.alloc ?_ _) | (with_reducible refine K.Rd.drew ?_) | (with_reducible refine K.Rd.below ?_ (by with_reducible assumption))))
  have x : K.Box (w.alloc o0) (w.heap.size) [.slice B k.length d] := by have h := K.Box.new w #[.slice B k.length d] 40; rw [ho0]; exact h
  replace x := x.alloc o1
  replace x := x.alloc o2
  have x2 : K.Box ((w.alloc o0).alloc o1) (w.heap.size + 1) [.slice B2 k2.length d2] := by have h := K.Box.new (w.alloc o0) #[.slice B2 k2.length d2] 40; rw [World.size_alloc] at h; rw [ho1]; exact h
  replace x2 := x2.alloc o2
  have z : K.Own (((w.alloc o0).alloc o1).alloc o2) (w.heap.size + 1 + 1) [.slice none 0 0] := by have h := K.Own.new ((w.alloc o0).alloc o1) #[.slice none 0 0] 40; rw [World.size_alloc, World.size_alloc] at h; rw [ho2]; exact h
  have bb : Below w.heap.size w (((w.alloc o0).alloc o1).alloc o2) := by (repeat (first | exact Below.refl _ _ | assumption | (refine K.below_drewN ?_ _) | (refine Below.drew ?_) | (refine Below.alloc ?_ (by first | (simp; done) | (simp; omega) | omega) _) | (refine Below.setCell ?_ (by first | (simp; done) | (simp; omega) | omega) _)))
  subst ho0 ho1 ho2
  have HS0 := Lib.hid (fun w h h' => AmountF.s_amt A c l B d k w hl hk hs hc hcc h h')
  have HS1 := Lib.hid (fun w h h' => AmountF.s_amt A c l B2 d2 k2 w hl hk2 hs hc hcc h h')
  cases hok0 : M.amtOk l k with
  | false =>
    rw [M.diffOf_no (fun h => by have h := h.1; rw [hok0] at h; cases h)]
    rw [hok0] at HS0
    clear hok0
    go_enter Try.func38, Try.ntmps38
    have px := x.c1
    have gx := x.1
    have px2 := x2.c1
    have gx2 := x2.1
    have pz := z.c1.2.2
    go_wp2_with fail
    refine (HS0.out _ r t).mono ?_
    rintro e w1 ⟨rfl, b1⟩
    clear px gx px2 gx2 pz
    replace r := r.below b1
    replace t := t.below b1
    replace t2 := t2.below b1
    replace x := x.below b1
    replace x2 := x2.below b1
    replace z := z.below b1
    replace bb := bb.trans (b1.mono bb.size)
    clear b1
    obtain ⟨z1, z2, z3⟩ := z.c1
    clear x x2
    go_wp2_with fail
    exact bodyPost_ret (v := .tuple #[.agg #[.slice none 0 0], .bool false]) (by simp [results, Try.results38, go_sem, z1]) rfl ⟨none, 0, rfl, K.Row.nil _ _ _ _, bb.setCell (by simp; try omega) _⟩
  | true =>
    rw [hok0] at HS0
    cases hok1 : M.amtOk l k2 with
    | false =>
      rw [M.diffOf_no (fun h => by have h := h.2; rw [hok1] at h; cases h)]
      rw [hok1] at HS1
      clear hok1
      go_enter Try.func38, Try.ntmps38
      have px := x.c1
      have gx := x.1
      have px2 := x2.c1
      have gx2 := x2.1
      have pz := z.c1.2.2
      go_wp2_with fail
      refine (HS0.out _ r t).mono ?_
      rintro e w1 ⟨rfl, b1⟩
      clear px gx px2 gx2 pz
      replace r := r.below b1
      replace t := t.below b1
      replace t2 := t2.below b1
      replace x := x.below b1
      replace x2 := x2.below b1
      replace z := z.below b1
      replace bb := bb.trans (b1.mono bb.size)
      clear b1
      have px := x.c1
      have gx := x.1
      have px2 := x2.c1
      have gx2 := x2.1
      have pz := z.c1.2.2
      go_wp2_with fail
      refine (HS1.out _ r t2).mono ?_
      rintro e w2 ⟨rfl, b2⟩
      clear px gx px2 gx2 pz
      replace r := r.below b2
      replace t := t.below b2
      replace t2 := t2.below b2
      replace x := x.below b2
      replace x2 := x2.below b2
      replace z := z.below b2
      replace bb := bb.trans (b2.mono bb.size)
      clear b2
      obtain ⟨z1, z2, z3⟩ := z.c1
      clear x x2
      go_wp2_with fail
      exact bodyPost_ret (v := .tuple #[.agg #[.slice none 0 0], .bool false]) (by simp [results, Try.results38, go_sem, z1]) rfl ⟨none, 0, rfl, K.Row.nil _ _ _ _, bb.setCell (by simp; try omega) _⟩
    | true =>
      rw [hok1] at HS1
      rw [M.diffOf_yes hok0 hok1]
      have hsys := ((M.amtOk_iff l k).1 hok0).1
      have v1 := M.aV_total hok0
      have v2 := M.aV_total hok1
      have HV := Lib.hid (fun w h h' => Val.s_val A c l B d k w hok0 h h')
      have HW := Lib.hid (fun w h h' => Val.s_val A c l B2 d2 k2 w hok1 h h')
      obtain ⟨a, hva⟩ : ∃ a, a = M.aV l k := ⟨_, rfl⟩
      obtain ⟨b, hvb⟩ : ∃ b, b = M.aV l k2 := ⟨_, rfl⟩
      rw [← hva] at v1 HV ⊢
      rw [← hvb] at v2 HW ⊢
      have HP := Lib.hid (fun w h => Proper.s_proper A c l (a - b) w hsys (by omega) hs hc hcc h)
      generalize M.proper l (a - b) = R at HP ⊢
      clear hok0 hok1 hva hvb hsys
      go_enter Try.func38, Try.ntmps38
      have px := x.c1
      have gx := x.1
      have px2 := x2.c1
      have gx2 := x2.1
      have pz := z.c1.2.2
      go_wp2_with fail
      refine (HS0.out _ r t).mono ?_
      rintro e w1 ⟨rfl, b1⟩
      clear px gx px2 gx2 pz
      replace r := r.below b1
      replace t := t.below b1
      replace t2 := t2.below b1
      replace x := x.below b1
      replace x2 := x2.below b1
      replace z := z.below b1
      replace bb := bb.trans (b1.mono bb.size)
      clear b1
      have px := x.c1
      have gx := x.1
      have px2 := x2.c1
      have gx2 := x2.1
      have pz := z.c1.2.2
      go_wp2_with fail
      refine (HS1.out _ r t2).mono ?_
      rintro e w2 ⟨rfl, b2⟩
      clear px gx px2 gx2 pz
      replace r := r.below b2
      replace t := t.below b2
      replace t2 := t2.below b2
      replace x := x.below b2
      replace x2 := x2.below b2
      replace z := z.below b2
      replace bb := bb.trans (b2.mono bb.size)
      clear b2
      have sw : IntKind.i64.wrap (a - b) = a - b := IntWalk.i64_in _ (by omega)
      have px := x.c1
      have gx := x.1
      have px2 := x2.c1
      have gx2 := x2.1
      have pz := z.c1.2.2
      go_wp2_with fail
      have BB := Lib.hid bb
      clear bb
      go_region_held3 (fun w' => w'.cell? ⟨w.heap.size, 0, none⟩ = some (.slice B k.length d) ∧ w'.cell? ⟨w.heap.size + 1, 0, none⟩ = some (.slice B2 k2.length d2))
        (first | (go_keep; done) | ((try dsimp only); refine ⟨?_, ?_⟩ <;> (first | (go_keep; done) | (refine K.Box.c1 ?_; (repeat (first | with_reducible assumption | (with_reducible refine K.Box.alloc ?_ _) | (with_reducible refine K.Box.drew ?_) | (with_reducible refine K.Box.setOther ?_ (by simp <;> omega) _) | (with_reducible refine K.Box.below ?_ (by with_reducible assumption))))))))
        (first | (go_at_call 69; first | (((with_reducible refine (HV.out (w2.alloc (.cells #[.slice none 0 0] 40)).drew (by (repeat (first | with_reducible assumption | (with_reducible refine K.Rd.alloc ?_ _) | (with_reducible refine K.Rd.drew ?_) | (with_reducible refine K.Rd.below ?_ (by with_reducible assumption))))) (by (repeat (first | with_reducible assumption | (with_reducible refine K.Rd.alloc ?_ _) | (with_reducible refine K.Rd.drew ?_) | (with_reducible refine K.Rd.below ?_ (by with_reducible assumption)))))).mono ?_)); rintro e w3 ⟨rfl, b3⟩; have ow := (K.Own.new w2 #[.slice none 0 0] 40).drew.below b3; obtain ⟨cw, fw, lw⟩ := ow.c1; have z3 : K.Own w3 (w.heap.size + 1 + 1) [.slice none 0 0] := (by (repeat (first | with_reducible assumption | (with_reducible refine K.Own.alloc ?_ _) | (with_reducible refine K.Own.drew ?_) | (with_reducible refine K.Own.setOther ?_ (by simp <;> omega) _) | (with_reducible refine K.Own.below ?_ (by with_reducible assumption))))); have bb3 := Lib.hid (((BB.out.alloc BB.out.size (.cells #[.slice none 0 0] 40)).drew).trans (b3.mono (by have hq := BB.out.size; simp <;> omega))); have s3 := b3.size; (try simp at s3)) | (((with_reducible refine (HV.out _ (by (repeat (first | with_reducible assumption | (with_reducible refine K.Rd.alloc ?_ _) | (with_reducible refine K.Rd.drew ?_) | (with_reducible refine K.Rd.below ?_ (by with_reducible assumption))))) (by (repeat (first | with_reducible assumption | (with_reducible refine K.Rd.alloc ?_ _) | (with_reducible refine K.Rd.drew ?_) | (with_reducible refine K.Rd.below ?_ (by with_reducible assumption)))))).mono ?_)); rintro e w3 ⟨rfl, b3⟩; (try (replace ow := ow.below b3; obtain ⟨cw, fw, lw⟩ := ow.c1)); have z3 : K.Own w3 (w.heap.size + 1 + 1) [.slice none 0 0] := (by (repeat (first | with_reducible assumption | (with_reducible refine K.Own.alloc ?_ _) | (with_reducible refine K.Own.drew ?_) | (with_reducible refine K.Own.setOther ?_ (by simp <;> omega) _) | (with_reducible refine K.Own.below ?_ (by with_reducible assumption))))); have bb3 := Lib.hid (BB.out.drew.trans (b3.mono (by have hq := BB.out.size; simp <;> omega))); have s3 := b3.size; (try simp at s3))) | (go_at_call 69; first | (((with_reducible refine (HW.out (w3.alloc (.cells #[.slice none 0 0] 40)) (by (repeat (first | with_reducible assumption | (with_reducible refine K.Rd.alloc ?_ _) | (with_reducible refine K.Rd.drew ?_) | (with_reducible refine K.Rd.below ?_ (by with_reducible assumption))))) (by (repeat (first | with_reducible assumption | (with_reducible refine K.Rd.alloc ?_ _) | (with_reducible refine K.Rd.drew ?_) | (with_reducible refine K.Rd.below ?_ (by with_reducible assumption)))))).mono ?_)); rintro e w4 ⟨rfl, b4⟩; have ow := (K.Own.new w3 #[.slice none 0 0] 40).below b4; obtain ⟨cw, fw, lw⟩ := ow.c1; have z4 : K.Own w4 (w.heap.size + 1 + 1) [.slice none 0 0] := (by (repeat (first | with_reducible assumption | (with_reducible refine K.Own.alloc ?_ _) | (with_reducible refine K.Own.drew ?_) | (with_reducible refine K.Own.setOther ?_ (by simp <;> omega) _) | (with_reducible refine K.Own.below ?_ (by with_reducible assumption))))); have bb4 := Lib.hid (((bb3.out.alloc bb3.out.size (.cells #[.slice none 0 0] 40))).trans (b4.mono (by have hq := bb3.out.size; simp <;> omega))); have s4 := b4.size; (try simp at s4)) | (((with_reducible refine (HW.out _ (by (repeat (first | with_reducible assumption | (with_reducible refine K.Rd.alloc ?_ _) | (with_reducible refine K.Rd.drew ?_) | (with_reducible refine K.Rd.below ?_ (by with_reducible assumption))))) (by (repeat (first | with_reducible assumption | (with_reducible refine K.Rd.alloc ?_ _) | (with_reducible refine K.Rd.drew ?_) | (with_reducible refine K.Rd.below ?_ (by with_reducible assumption)))))).mono ?_)); rintro e w4 ⟨rfl, b4⟩; (try (replace ow := ow.below b4; obtain ⟨cw, fw, lw⟩ := ow.c1)); have z4 : K.Own w4 (w.heap.size + 1 + 1) [.slice none 0 0] := (by (repeat (first | with_reducible assumption | (with_reducible refine K.Own.alloc ?_ _) | (with_reducible refine K.Own.drew ?_) | (with_reducible refine K.Own.setOther ?_ (by simp <;> omega) _) | (with_reducible refine K.Own.below ?_ (by with_reducible assumption))))); have bb4 := Lib.hid (bb3.out.trans (b4.mono (by have hq := bb3.out.size; simp <;> omega))); have s4 := b4.size; (try simp at s4))) | (go_at_call 71; first | (((with_reducible refine (HP.out (w4.alloc (.cells #[.slice none 0 0] 40)) (by (repeat (first | with_reducible assumption | (with_reducible refine K.Rd.alloc ?_ _) | (with_reducible refine K.Rd.drew ?_) | (with_reducible refine K.Rd.below ?_ (by with_reducible assumption)))))).mono ?_)); rintro e w5 ⟨X, n, rfl, row, b5⟩; have ow := (K.Own.new w4 #[.slice none 0 0] 40).below b5; obtain ⟨cw, fw, lw⟩ := ow.c1; have z5 : K.Own w5 (w.heap.size + 1 + 1) [.slice none 0 0] := (by (repeat (first | with_reducible assumption | (with_reducible refine K.Own.alloc ?_ _) | (with_reducible refine K.Own.drew ?_) | (with_reducible refine K.Own.setOther ?_ (by simp <;> omega) _) | (with_reducible refine K.Own.below ?_ (by with_reducible assumption))))); have bb5 := Lib.hid (((bb4.out.alloc bb4.out.size (.cells #[.slice none 0 0] 40))).trans (b5.mono (by have hq := bb4.out.size; simp <;> omega))); have s5 := b5.size; (try simp at s5); have hlt := row.lt; (try simp at hlt); have rw0 := row.more (lo' := w.heap.size) (by have hq := bb4.out.size; simp <;> omega); obtain ⟨zc, zf, zl⟩ := z5.c1) | (((with_reducible refine (HP.out _ (by (repeat (first | with_reducible assumption | (with_reducible refine K.Rd.alloc ?_ _) | (with_reducible refine K.Rd.drew ?_) | (with_reducible refine K.Rd.below ?_ (by with_reducible assumption)))))).mono ?_)); rintro e w5 ⟨X, n, rfl, row, b5⟩; (try (replace ow := ow.below b5; obtain ⟨cw, fw, lw⟩ := ow.c1)); have z5 : K.Own w5 (w.heap.size + 1 + 1) [.slice none 0 0] := (by (repeat (first | with_reducible assumption | (with_reducible refine K.Own.alloc ?_ _) | (with_reducible refine K.Own.drew ?_) | (with_reducible refine K.Own.setOther ?_ (by simp <;> omega) _) | (with_reducible refine K.Own.below ?_ (by with_reducible assumption))))); have bb5 := Lib.hid (bb4.out.trans (b5.mono (by have hq := bb4.out.size; simp <;> omega))); have s5 := b5.size; (try simp at s5); have hlt := row.lt; (try simp at hlt); have rw0 := row.more (lo' := w.heap.size) (by have hq := bb4.out.size; simp <;> omega); obtain ⟨zc, zf, zl⟩ := z5.c1)))
      all_goals
        obtain ⟨z1, z2, z3⟩ := z5.c1
        have h0 := BB.out.size
        have h3 := bb3.out.size
        have h4 := bb4.out.size
        have h5 := bb5.out.size
        have bbz := bb5.out
        go_wp2_with fail
      all_goals
        exact bodyPost_ret (v := .tuple #[.agg #[.slice X R.1.length n], .bool R.2]) (by first | (simp [results, Try.results38, go_sem]; done) | (simp [results, Try.results38, go_sem, z1]; done) | (simp [results, Try.results38, go_sem, z1, World.cell?_alloc_some]; done)) rfl ⟨X, n, rfl, by (repeat (first | with_reducible assumption | (with_reducible refine K.Row.setNe ?_ (fun g hg => by have hq := hlt g hg; simp at hq ⊢; omega) _) | (with_reducible refine K.Row.alloc ?_ _) | (with_reducible refine K.Row.drew ?_))), by (repeat (first | exact Below.refl _ _ | assumption | (refine K.below_drewN ?_ _) | (refine Below.drew ?_) | (refine Below.alloc ?_ (by first | (simp; done) | (simp; omega) | omega) _) | (refine Below.setCell ?_ (by first | (simp; done) | (simp; omega) | omega) _)))⟩
set_option maxHeartbeats 2000000 in
theorem i_times (A : Option Addr) (c : Nat) (l : List M.Unit) (B : Option Addr) (d : Nat) (k : List Int) (n : Int) (w : World) (hl : l.length ≤ 1048576) (hs : ∀ u ∈ l, u.name.size ≤ 9223372036854775807) (hc : l.length ≤ c) (hcc : c ≤ 9223372036854775807) (ha : K.Rd w 2 A l.length (l.flatMap M.unitCells)) (hk : k.length ≤ 1048576) (hb : K.Rd w 1 B k.length (k.map (Value.int .i64))) :
    Calls Try.prog 43 #[.slice A l.length c, .agg #[.slice B k.length d], .int .i64 n] w (AmountH.RetAmountB w (M.timesOf l k n).1 (M.timesOf l k n).2) := by
  obtain ⟨o0, ho0⟩ : ∃ o : Obj, o = .cells #[.slice B k.length d] 40 := ⟨_, rfl⟩
  obtain ⟨o1, ho1⟩ : ∃ o : Obj, o = .cells #[.slice none 0 0] 40 := ⟨_, rfl⟩
  have r : K.Rd ((w.alloc o0).alloc o1) 2 A l.length (l.flatMap M.unitCells) := by (repeat (first | with_reducible assumption | (with_reducible refine K.Rd.alloc ?_ _) | (with_reducible refine K.Rd.drew ?_) | (with_reducible refine K.Rd.below ?_ (by with_reducible assumption))))
  have t : K.Rd ((w.alloc o0).alloc o1) 1 B k.length (k.map (Value.int .i64)) := by (repeat (first | with_reducible assumption | (with_reducible refine K.Rd.alloc ?_ _) | (with_reducible refine K.Rd.drew ?_) | (with_reducible refine K.Rd.below ?_ (by with_reducible assumption))))
  have x : K.Box (w.alloc o0) (w.heap.size) [.slice B k.length d] := by have h := K.Box.new w #[.slice B k.length d] 40; rw [ho0]; exact h
  replace x := x.alloc o1
  have z : K.Own ((w.alloc o0).alloc o1) (w.heap.size + 1) [.slice none 0 0] := by have h := K.Own.new (w.alloc o0) #[.slice none 0 0] 40; rw [World.size_alloc] at h; rw [ho1]; exact h
  have bb : Below w.heap.size w ((w.alloc o0).alloc o1) := by (repeat (first | exact Below.refl _ _ | assumption | (refine K.below_drewN ?_ _) | (refine Below.drew ?_) | (refine Below.alloc ?_ (by first | (simp; done) | (simp; omega) | omega) _) | (refine Below.setCell ?_ (by first | (simp; done) | (simp; omega) | omega) _)))
  subst ho0 ho1
  have HS0 := Lib.hid (fun w h h' => AmountF.i_amount A c l B d k w hl hk hs hc hcc h h')
  cases hok0 : M.amtOk l k with
  | false =>
    rw [M.timesOf_no (fun h => by have h := h.1; rw [hok0] at h; cases h)]
    rw [hok0] at HS0
    clear hok0
    go_enter Try.func43, Try.ntmps43
    have px := x.c1
    have gx := x.1
    have pz := z.c1.2.2
    go_wp2_with fail
    refine (HS0.out _ r t).mono ?_
    rintro e w1 ⟨rfl, b1⟩
    clear px gx pz
    replace r := r.below b1
    replace t := t.below b1
    replace x := x.below b1
    replace z := z.below b1
    replace bb := bb.trans (b1.mono bb.size)
    clear b1
    obtain ⟨z1, z2, z3⟩ := z.c1
    clear x
    go_wp2_with fail
    exact bodyPost_ret (v := .tuple #[.agg #[.slice none 0 0], .bool false]) (by simp [results, Try.results43, go_sem, z1]) rfl ⟨none, 0, rfl, K.Row.nil _ _ _ _, bb.setCell (by simp; try omega) _⟩
  | true =>
    rw [hok0] at HS0
    by_cases hn1 : 0 ≤ n ∧ n ≤ 1000
    case' neg =>
      rw [M.timesOf_no (fun h => by have := M.inR_iff.1 (h.2); omega)]
      go_enter Try.func43, Try.ntmps43
      have px := x.c1
      have gx := x.1
      have pz := z.c1.2.2
      go_wp2_with fail
      refine (HS0.out _ r t).mono ?_
      rintro e w1 ⟨rfl, b1⟩
      clear px gx pz
      replace r := r.below b1
      replace t := t.below b1
      replace x := x.below b1
      replace z := z.below b1
      replace bb := bb.trans (b1.mono bb.size)
      clear b1
      have px := x.c1
      have gx := x.1
      have pz := z.c1.2.2
      go_wp2_with fail
      refine (Base.i_within_no _ _ _ _ (by omega)).mono ?_
      rintro e w2 ⟨rfl, rfl⟩
      clear px gx pz
      obtain ⟨z1, z2, z3⟩ := z.c1
      clear x
      go_wp2_with fail
      exact bodyPost_ret (v := .tuple #[.agg #[.slice none 0 0], .bool false]) (by simp [results, Try.results43, go_sem, z1]) rfl ⟨none, 0, rfl, K.Row.nil _ _ _ _, bb.setCell (by simp; try omega) _⟩
    case' pos =>
      obtain ⟨hn1a, hn1b⟩ := hn1
      rw [M.timesOf_yes hok0 (M.inR_yes hn1a hn1b)]
      have hsys := ((M.amtOk_iff l k).1 hok0).1
      have v1 := M.aV_total hok0
      have HV := Lib.hid (fun w h h' => Val.i_val A c l B d k w hok0 h h')
      obtain ⟨a, hva⟩ : ∃ a, a = M.aV l k := ⟨_, rfl⟩
      rw [← hva] at v1 HV ⊢
      obtain ⟨v1a, v1b⟩ := v1
      have m1 : 0 ≤ n * a := Int.mul_nonneg hn1a v1a
      have m2 : n * a ≤ 102000000000000000 := by have h1 := Int.mul_le_mul_of_nonneg_right hn1b v1a; omega
      have HP := Lib.hid (fun w h => Proper.i_proper A c l (n * a) w hsys (by omega) h)
      generalize M.proper l (n * a) = R at HP ⊢
      clear hok0 hva hsys
      go_enter Try.func43, Try.ntmps43
      have px := x.c1
      have gx := x.1
      have pz := z.c1.2.2
      go_wp2_with fail
      refine (HS0.out _ r t).mono ?_
      rintro e w1 ⟨rfl, b1⟩
      clear px gx pz
      replace r := r.below b1
      replace t := t.below b1
      replace x := x.below b1
      replace z := z.below b1
      replace bb := bb.trans (b1.mono bb.size)
      clear b1
      have px := x.c1
      have gx := x.1
      have pz := z.c1.2.2
      go_wp2_with fail
      refine (Base.i_within_yes _ _ _ _ (by omega) (by omega)).mono ?_
      rintro e w2 ⟨rfl, rfl⟩
      clear px gx pz
      have px := x.c1
      have gx := x.1
      have pz := z.c1.2.2
      go_wp2_with fail
      refine (HV.out _ r t).mono ?_
      rintro e w3 ⟨rfl, b3⟩
      clear px gx pz
      replace r := r.below b3
      replace t := t.below b3
      replace x := x.below b3
      replace z := z.below b3
      replace bb := bb.trans (b3.mono bb.size)
      clear b3
      have px := x.c1
      have gx := x.1
      have pz := z.c1.2.2
      go_wp2_with fail
      refine (HP.out _ r).mono ?_
      rintro e w4 ⟨X, m, rfl, row, b4⟩
      clear px gx pz
      have hlt := row.lt
      have rw0 := row.more (lo' := w.heap.size) bb.size
      have h0 := bb.size
      have bbz := bb.trans (b4.mono bb.size)
      have hz0 := bbz.size
      obtain ⟨z1, z2, z3⟩ := (z.below b4).c1
      have hq0 := z.1.1
      have hq1 := b4.size
      go_wp2_with fail
      exact bodyPost_ret (v := .tuple #[.agg #[.slice X R.1.length m], .bool R.2]) (by simp [results, Try.results43, go_sem, *]) rfl ⟨X, m, rfl, by (repeat (first | with_reducible assumption | (with_reducible refine K.Row.setNe ?_ (fun g hg => by have hq := hlt g hg; simp at hq ⊢; omega) _) | (with_reducible refine K.Row.alloc ?_ _) | (with_reducible refine K.Row.drew ?_))), by (repeat (first | exact Below.refl _ _ | assumption | (refine K.below_drewN ?_ _) | (refine Below.drew ?_) | (refine Below.alloc ?_ (by first | (simp; done) | (simp; omega) | omega) _) | (refine Below.setCell ?_ (by first | (simp; done) | (simp; omega) | omega) _)))⟩
set_option maxHeartbeats 2000000 in
theorem s_times (A : Option Addr) (c : Nat) (l : List M.Unit) (B : Option Addr) (d : Nat) (k : List Int) (n : Int) (w : World) (hl : l.length ≤ 1048576) (hs : ∀ u ∈ l, u.name.size ≤ 9223372036854775807) (hc : l.length ≤ c) (hcc : c ≤ 9223372036854775807) (ha : K.Rd w 2 A l.length (l.flatMap M.unitCells)) (hk : k.length ≤ 1048576) (hb : K.Rd w 1 B k.length (k.map (Value.int .i64))) :
    Calls Try.prog 42 #[.slice A l.length c, .agg #[.slice B k.length d], .int .i64 n] w (AmountH.RetAmountB w (M.timesOf l k n).1 (M.timesOf l k n).2) := by
  obtain ⟨o0, ho0⟩ : ∃ o : Obj, o = .cells #[.slice B k.length d] 40 := ⟨_, rfl⟩
  obtain ⟨o1, ho1⟩ : ∃ o : Obj, o = .cells #[.slice none 0 0] 40 := ⟨_, rfl⟩
  have r : K.Rd ((w.alloc o0).alloc o1) 2 A l.length (l.flatMap M.unitCells) := by (repeat (first | with_reducible assumption | (with_reducible refine K.Rd.alloc ?_ _) | (with_reducible refine K.Rd.drew ?_) | (with_reducible refine K.Rd.below ?_ (by with_reducible assumption))))
  have t : K.Rd ((w.alloc o0).alloc o1) 1 B k.length (k.map (Value.int .i64)) := by (repeat (first | with_reducible assumption | (with_reducible refine K.Rd.alloc ?_ _) | (with_reducible refine K.Rd.drew ?_) | (with_reducible refine K.Rd.below ?_ (by with_reducible assumption))))
  have x : K.Box (w.alloc o0) (w.heap.size) [.slice B k.length d] := by have h := K.Box.new w #[.slice B k.length d] 40; rw [ho0]; exact h
  replace x := x.alloc o1
  have z : K.Own ((w.alloc o0).alloc o1) (w.heap.size + 1) [.slice none 0 0] := by have h := K.Own.new (w.alloc o0) #[.slice none 0 0] 40; rw [World.size_alloc] at h; rw [ho1]; exact h
  have bb : Below w.heap.size w ((w.alloc o0).alloc o1) := by (repeat (first | exact Below.refl _ _ | assumption | (refine K.below_drewN ?_ _) | (refine Below.drew ?_) | (refine Below.alloc ?_ (by first | (simp; done) | (simp; omega) | omega) _) | (refine Below.setCell ?_ (by first | (simp; done) | (simp; omega) | omega) _)))
  subst ho0 ho1
  have HS0 := Lib.hid (fun w h h' => AmountF.s_amt A c l B d k w hl hk hs hc hcc h h')
  cases hok0 : M.amtOk l k with
  | false =>
    rw [M.timesOf_no (fun h => by have h := h.1; rw [hok0] at h; cases h)]
    rw [hok0] at HS0
    clear hok0
    go_enter Try.func42, Try.ntmps42
    have px := x.c1
    have gx := x.1
    have pz := z.c1.2.2
    go_wp2_with fail
    refine (HS0.out _ r t).mono ?_
    rintro e w1 ⟨rfl, b1⟩
    clear px gx pz
    replace r := r.below b1
    replace t := t.below b1
    replace x := x.below b1
    replace z := z.below b1
    replace bb := bb.trans (b1.mono bb.size)
    clear b1
    obtain ⟨z1, z2, z3⟩ := z.c1
    clear x
    go_wp2_with fail
    exact bodyPost_ret (v := .tuple #[.agg #[.slice none 0 0], .bool false]) (by simp [results, Try.results42, go_sem, z1]) rfl ⟨none, 0, rfl, K.Row.nil _ _ _ _, bb.setCell (by simp; try omega) _⟩
  | true =>
    rw [hok0] at HS0
    by_cases hn1 : 0 ≤ n ∧ n ≤ 1000
    case' neg =>
      rw [M.timesOf_no (fun h => by have := M.inR_iff.1 (h.2); omega)]
      go_enter Try.func42, Try.ntmps42
      have px := x.c1
      have gx := x.1
      have pz := z.c1.2.2
      go_wp2_with fail
      refine (HS0.out _ r t).mono ?_
      rintro e w1 ⟨rfl, b1⟩
      clear px gx pz
      replace r := r.below b1
      replace t := t.below b1
      replace x := x.below b1
      replace z := z.below b1
      replace bb := bb.trans (b1.mono bb.size)
      clear b1
      have px := x.c1
      have gx := x.1
      have pz := z.c1.2.2
      go_wp2_with fail
      refine (Base.s_in_no _ _ _ _ (by omega)).mono ?_
      rintro e w2 ⟨rfl, rfl⟩
      clear px gx pz
      obtain ⟨z1, z2, z3⟩ := z.c1
      clear x
      go_wp2_with fail
      exact bodyPost_ret (v := .tuple #[.agg #[.slice none 0 0], .bool false]) (by simp [results, Try.results42, go_sem, z1]) rfl ⟨none, 0, rfl, K.Row.nil _ _ _ _, bb.setCell (by simp; try omega) _⟩
    case' pos =>
      obtain ⟨hn1a, hn1b⟩ := hn1
      rw [M.timesOf_yes hok0 (M.inR_yes hn1a hn1b)]
      have hsys := ((M.amtOk_iff l k).1 hok0).1
      have v1 := M.aV_total hok0
      have HV := Lib.hid (fun w h h' => Val.s_val A c l B d k w hok0 h h')
      obtain ⟨a, hva⟩ : ∃ a, a = M.aV l k := ⟨_, rfl⟩
      rw [← hva] at v1 HV ⊢
      obtain ⟨v1a, v1b⟩ := v1
      have m1 : 0 ≤ n * a := Int.mul_nonneg hn1a v1a
      have m2 : n * a ≤ 102000000000000000 := by have h1 := Int.mul_le_mul_of_nonneg_right hn1b v1a; omega
      have HP := Lib.hid (fun w h => Proper.s_proper A c l (n * a) w hsys (by omega) hs hc hcc h)
      generalize M.proper l (n * a) = R at HP ⊢
      clear hok0 hva hsys
      go_enter Try.func42, Try.ntmps42
      have px := x.c1
      have gx := x.1
      have pz := z.c1.2.2
      go_wp2_with fail
      refine (HS0.out _ r t).mono ?_
      rintro e w1 ⟨rfl, b1⟩
      clear px gx pz
      replace r := r.below b1
      replace t := t.below b1
      replace x := x.below b1
      replace z := z.below b1
      replace bb := bb.trans (b1.mono bb.size)
      clear b1
      have px := x.c1
      have gx := x.1
      have pz := z.c1.2.2
      go_wp2_with fail
      refine (Base.s_in_yes _ _ _ _ (by omega) (by omega)).mono ?_
      rintro e w2 ⟨rfl, rfl⟩
      clear px gx pz
      have px := x.c1
      have gx := x.1
      have pz := z.c1.2.2
      go_wp2_with fail
      refine (HV.out _ r t).mono ?_
      rintro e w3 ⟨rfl, b3⟩
      clear px gx pz
      replace r := r.below b3
      replace t := t.below b3
      replace x := x.below b3
      replace z := z.below b3
      replace bb := bb.trans (b3.mono bb.size)
      clear b3
      have px := x.c1
      have gx := x.1
      have pz := z.c1.2.2
      go_wp2_with fail
      refine (HP.out _ r).mono ?_
      rintro e w4 ⟨X, m, rfl, row, b4⟩
      clear px gx pz
      have hlt := row.lt
      have rw0 := row.more (lo' := w.heap.size) bb.size
      have h0 := bb.size
      have bbz := bb.trans (b4.mono bb.size)
      have hz0 := bbz.size
      obtain ⟨z1, z2, z3⟩ := (z.below b4).c1
      have hq0 := z.1.1
      have hq1 := b4.size
      go_wp2_with fail
      exact bodyPost_ret (v := .tuple #[.agg #[.slice X R.1.length m], .bool R.2]) (by simp [results, Try.results42, go_sem, *]) rfl ⟨X, m, rfl, by (repeat (first | with_reducible assumption | (with_reducible refine K.Row.setNe ?_ (fun g hg => by have hq := hlt g hg; simp at hq ⊢; omega) _) | (with_reducible refine K.Row.alloc ?_ _) | (with_reducible refine K.Row.drew ?_))), by (repeat (first | exact Below.refl _ _ | assumption | (refine K.below_drewN ?_ _) | (refine Below.drew ?_) | (refine Below.alloc ?_ (by first | (simp; done) | (simp; omega) | omega) _) | (refine Below.setCell ?_ (by first | (simp; done) | (simp; omega) | omega) _)))⟩
set_option maxHeartbeats 2000000 in
theorem i_conv (A : Option Addr) (c : Nat) (l : List M.Unit) (B : Option Addr) (d : Nat) (k : List Int) (A2 : Option Addr) (c2 : Nat) (l2 : List M.Unit) (num : Int) (den : Int) (w : World) (hl : l.length ≤ 1048576) (hs : ∀ u ∈ l, u.name.size ≤ 9223372036854775807) (hc : l.length ≤ c) (hcc : c ≤ 9223372036854775807) (ha : K.Rd w 2 A l.length (l.flatMap M.unitCells)) (hl2 : l2.length ≤ 1048576) (hs2 : ∀ u ∈ l2, u.name.size ≤ 9223372036854775807) (hc2 : l2.length ≤ c2) (hcc2 : c2 ≤ 9223372036854775807) (ha2 : K.Rd w 2 A2 l2.length (l2.flatMap M.unitCells)) (hk : k.length ≤ 1048576) (hb : K.Rd w 1 B k.length (k.map (Value.int .i64))) :
    Calls Try.prog 45 #[.slice A l.length c, .agg #[.slice B k.length d], .slice A2 l2.length c2, .int .i64 num, .int .i64 den] w (AmountH.RetAmountB w (M.convTo l k l2 num den).1 (M.convTo l k l2 num den).2) := by
  obtain ⟨o0, ho0⟩ : ∃ o : Obj, o = .cells #[.slice B k.length d] 40 := ⟨_, rfl⟩
  obtain ⟨o1, ho1⟩ : ∃ o : Obj, o = .cells #[.slice none 0 0] 40 := ⟨_, rfl⟩
  have r : K.Rd ((w.alloc o0).alloc o1) 2 A l.length (l.flatMap M.unitCells) := by (repeat (first | with_reducible assumption | (with_reducible refine K.Rd.alloc ?_ _) | (with_reducible refine K.Rd.drew ?_) | (with_reducible refine K.Rd.below ?_ (by with_reducible assumption))))
  have r2 : K.Rd ((w.alloc o0).alloc o1) 2 A2 l2.length (l2.flatMap M.unitCells) := by (repeat (first | with_reducible assumption | (with_reducible refine K.Rd.alloc ?_ _) | (with_reducible refine K.Rd.drew ?_) | (with_reducible refine K.Rd.below ?_ (by with_reducible assumption))))
  have t : K.Rd ((w.alloc o0).alloc o1) 1 B k.length (k.map (Value.int .i64)) := by (repeat (first | with_reducible assumption | (with_reducible refine K.Rd.alloc ?_ _) | (with_reducible refine K.Rd.drew ?_) | (with_reducible refine K.Rd.below ?_ (by with_reducible assumption))))
  have x : K.Box (w.alloc o0) (w.heap.size) [.slice B k.length d] := by have h := K.Box.new w #[.slice B k.length d] 40; rw [ho0]; exact h
  replace x := x.alloc o1
  have z : K.Own ((w.alloc o0).alloc o1) (w.heap.size + 1) [.slice none 0 0] := by have h := K.Own.new (w.alloc o0) #[.slice none 0 0] 40; rw [World.size_alloc] at h; rw [ho1]; exact h
  have bb : Below w.heap.size w ((w.alloc o0).alloc o1) := by (repeat (first | exact Below.refl _ _ | assumption | (refine K.below_drewN ?_ _) | (refine Below.drew ?_) | (refine Below.alloc ?_ (by first | (simp; done) | (simp; omega) | omega) _) | (refine Below.setCell ?_ (by first | (simp; done) | (simp; omega) | omega) _)))
  subst ho0 ho1
  have HS0 := Lib.hid (fun w h h' => AmountF.i_amount A c l B d k w hl hk hs hc hcc h h')
  have HS1 := Lib.hid (fun w h  => Sys.i_sys A2 c2 l2 w hl2 hs2 hc2 hcc2 h)
  cases hok0 : M.amtOk l k with
  | false =>
    rw [M.convTo_no (fun h => by have h := h.1; rw [hok0] at h; cases h)]
    rw [hok0] at HS0
    clear hok0
    go_enter Try.func45, Try.ntmps45
    have px := x.c1
    have gx := x.1
    have pz := z.c1.2.2
    go_wp2_with fail
    refine (HS0.out _ r t).mono ?_
    rintro e w1 ⟨rfl, b1⟩
    clear px gx pz
    replace r := r.below b1
    replace r2 := r2.below b1
    replace t := t.below b1
    replace x := x.below b1
    replace z := z.below b1
    replace bb := bb.trans (b1.mono bb.size)
    clear b1
    obtain ⟨z1, z2, z3⟩ := z.c1
    clear x
    go_wp2_with fail
    exact bodyPost_ret (v := .tuple #[.agg #[.slice none 0 0], .bool false]) (by simp [results, Try.results45, go_sem, z1]) rfl ⟨none, 0, rfl, K.Row.nil _ _ _ _, bb.setCell (by simp; try omega) _⟩
  | true =>
    rw [hok0] at HS0
    cases hok1 : M.sysOk l2 with
    | false =>
      rw [M.convTo_no (fun h => by have h := h.2.1; rw [hok1] at h; cases h)]
      rw [hok1] at HS1
      clear hok1
      go_enter Try.func45, Try.ntmps45
      have px := x.c1
      have gx := x.1
      have pz := z.c1.2.2
      go_wp2_with fail
      refine (HS0.out _ r t).mono ?_
      rintro e w1 ⟨rfl, b1⟩
      clear px gx pz
      replace r := r.below b1
      replace r2 := r2.below b1
      replace t := t.below b1
      replace x := x.below b1
      replace z := z.below b1
      replace bb := bb.trans (b1.mono bb.size)
      clear b1
      have px := x.c1
      have gx := x.1
      have pz := z.c1.2.2
      go_wp2_with fail
      refine (HS1.out _ r2).mono ?_
      rintro e w2 ⟨rfl, b2⟩
      clear px gx pz
      replace r := r.below b2
      replace r2 := r2.below b2
      replace t := t.below b2
      replace x := x.below b2
      replace z := z.below b2
      replace bb := bb.trans (b2.mono bb.size)
      clear b2
      obtain ⟨z1, z2, z3⟩ := z.c1
      clear x
      go_wp2_with fail
      exact bodyPost_ret (v := .tuple #[.agg #[.slice none 0 0], .bool false]) (by simp [results, Try.results45, go_sem, z1]) rfl ⟨none, 0, rfl, K.Row.nil _ _ _ _, bb.setCell (by simp; try omega) _⟩
    | true =>
      rw [hok1] at HS1
      by_cases hn2 : 1 ≤ num ∧ num ≤ 10000
      case' neg =>
        rw [M.convTo_no (fun h => by have := M.inR_iff.1 (h.2.2.1); omega)]
        go_enter Try.func45, Try.ntmps45
        have px := x.c1
        have gx := x.1
        have pz := z.c1.2.2
        go_wp2_with fail
        refine (HS0.out _ r t).mono ?_
        rintro e w1 ⟨rfl, b1⟩
        clear px gx pz
        replace r := r.below b1
        replace r2 := r2.below b1
        replace t := t.below b1
        replace x := x.below b1
        replace z := z.below b1
        replace bb := bb.trans (b1.mono bb.size)
        clear b1
        have px := x.c1
        have gx := x.1
        have pz := z.c1.2.2
        go_wp2_with fail
        refine (HS1.out _ r2).mono ?_
        rintro e w2 ⟨rfl, b2⟩
        clear px gx pz
        replace r := r.below b2
        replace r2 := r2.below b2
        replace t := t.below b2
        replace x := x.below b2
        replace z := z.below b2
        replace bb := bb.trans (b2.mono bb.size)
        clear b2
        have px := x.c1
        have gx := x.1
        have pz := z.c1.2.2
        go_wp2_with fail
        refine (Base.i_within_no _ _ _ _ (by omega)).mono ?_
        rintro e w3 ⟨rfl, rfl⟩
        clear px gx pz
        obtain ⟨z1, z2, z3⟩ := z.c1
        clear x
        go_wp2_with fail
        exact bodyPost_ret (v := .tuple #[.agg #[.slice none 0 0], .bool false]) (by simp [results, Try.results45, go_sem, z1]) rfl ⟨none, 0, rfl, K.Row.nil _ _ _ _, bb.setCell (by simp; try omega) _⟩
      case' pos =>
        obtain ⟨hn2a, hn2b⟩ := hn2
        by_cases hn3 : 1 ≤ den ∧ den ≤ 10000
        case' neg =>
          rw [M.convTo_no (fun h => by have := M.inR_iff.1 (h.2.2.2); omega)]
          go_enter Try.func45, Try.ntmps45
          have px := x.c1
          have gx := x.1
          have pz := z.c1.2.2
          go_wp2_with fail
          refine (HS0.out _ r t).mono ?_
          rintro e w1 ⟨rfl, b1⟩
          clear px gx pz
          replace r := r.below b1
          replace r2 := r2.below b1
          replace t := t.below b1
          replace x := x.below b1
          replace z := z.below b1
          replace bb := bb.trans (b1.mono bb.size)
          clear b1
          have px := x.c1
          have gx := x.1
          have pz := z.c1.2.2
          go_wp2_with fail
          refine (HS1.out _ r2).mono ?_
          rintro e w2 ⟨rfl, b2⟩
          clear px gx pz
          replace r := r.below b2
          replace r2 := r2.below b2
          replace t := t.below b2
          replace x := x.below b2
          replace z := z.below b2
          replace bb := bb.trans (b2.mono bb.size)
          clear b2
          have px := x.c1
          have gx := x.1
          have pz := z.c1.2.2
          go_wp2_with fail
          refine (Base.i_within_yes _ _ _ _ (by omega) (by omega)).mono ?_
          rintro e w3 ⟨rfl, rfl⟩
          clear px gx pz
          have px := x.c1
          have gx := x.1
          have pz := z.c1.2.2
          go_wp2_with fail
          refine (Base.i_within_no _ _ _ _ (by omega)).mono ?_
          rintro e w4 ⟨rfl, rfl⟩
          clear px gx pz
          obtain ⟨z1, z2, z3⟩ := z.c1
          clear x
          go_wp2_with fail
          exact bodyPost_ret (v := .tuple #[.agg #[.slice none 0 0], .bool false]) (by simp [results, Try.results45, go_sem, z1]) rfl ⟨none, 0, rfl, K.Row.nil _ _ _ _, bb.setCell (by simp; try omega) _⟩
        case' pos =>
          obtain ⟨hn3a, hn3b⟩ := hn3
          rw [M.convTo_yes hok0 hok1 (M.inR_yes hn2a hn2b) (M.inR_yes hn3a hn3b)]
          have v1 := M.aV_total hok0
          have HV := Lib.hid (fun w h h' => Val.i_val A c l B d k w hok0 h h')
          obtain ⟨a, hva⟩ : ∃ a, a = M.aV l k := ⟨_, rfl⟩
          rw [← hva] at v1 HV ⊢
          obtain ⟨v1a, v1b⟩ := v1
          have m1 : 0 ≤ a * num := Int.mul_nonneg v1a (by omega)
          have m2 : a * num ≤ 1020000000000000000 := by have h1 := Int.mul_le_mul_of_nonneg_left hn2b v1a; omega
          have m3 : 0 ≤ a * num / den := Int.ediv_nonneg m1 (by omega)
          have m4 : a * num / den ≤ a * num := Int.ediv_le_self den m1
          have HP := Lib.hid (fun w h => Proper.i_proper A2 c2 l2 (a * num / den) w hok1 (by omega) h)
          generalize M.proper l2 (a * num / den) = R at HP ⊢
          clear hok0 hok1 hva
          go_enter Try.func45, Try.ntmps45
          have px := x.c1
          have gx := x.1
          have pz := z.c1.2.2
          go_wp2_with fail
          refine (HS0.out _ r t).mono ?_
          rintro e w1 ⟨rfl, b1⟩
          clear px gx pz
          replace r := r.below b1
          replace r2 := r2.below b1
          replace t := t.below b1
          replace x := x.below b1
          replace z := z.below b1
          replace bb := bb.trans (b1.mono bb.size)
          clear b1
          have px := x.c1
          have gx := x.1
          have pz := z.c1.2.2
          go_wp2_with fail
          refine (HS1.out _ r2).mono ?_
          rintro e w2 ⟨rfl, b2⟩
          clear px gx pz
          replace r := r.below b2
          replace r2 := r2.below b2
          replace t := t.below b2
          replace x := x.below b2
          replace z := z.below b2
          replace bb := bb.trans (b2.mono bb.size)
          clear b2
          have px := x.c1
          have gx := x.1
          have pz := z.c1.2.2
          go_wp2_with fail
          refine (Base.i_within_yes _ _ _ _ (by omega) (by omega)).mono ?_
          rintro e w3 ⟨rfl, rfl⟩
          clear px gx pz
          have px := x.c1
          have gx := x.1
          have pz := z.c1.2.2
          go_wp2_with fail
          refine (Base.i_within_yes _ _ _ _ (by omega) (by omega)).mono ?_
          rintro e w4 ⟨rfl, rfl⟩
          clear px gx pz
          have px := x.c1
          have gx := x.1
          have pz := z.c1.2.2
          go_wp2_with fail
          refine (HV.out _ r t).mono ?_
          rintro e w5 ⟨rfl, b5⟩
          clear px gx pz
          replace r := r.below b5
          replace r2 := r2.below b5
          replace t := t.below b5
          replace x := x.below b5
          replace z := z.below b5
          replace bb := bb.trans (b5.mono bb.size)
          clear b5
          have px := x.c1
          have gx := x.1
          have pz := z.c1.2.2
          go_wp2_with fail
          refine (HP.out _ r2).mono ?_
          rintro e w6 ⟨X, m, rfl, row, b6⟩
          clear px gx pz
          have hlt := row.lt
          have rw0 := row.more (lo' := w.heap.size) bb.size
          have h0 := bb.size
          have bbz := bb.trans (b6.mono bb.size)
          have hz0 := bbz.size
          obtain ⟨z1, z2, z3⟩ := (z.below b6).c1
          have hq0 := z.1.1
          have hq1 := b6.size
          go_wp2_with fail
          exact bodyPost_ret (v := .tuple #[.agg #[.slice X R.1.length m], .bool R.2]) (by simp [results, Try.results45, go_sem, *]) rfl ⟨X, m, rfl, by (repeat (first | with_reducible assumption | (with_reducible refine K.Row.setNe ?_ (fun g hg => by have hq := hlt g hg; simp at hq ⊢; omega) _) | (with_reducible refine K.Row.alloc ?_ _) | (with_reducible refine K.Row.drew ?_))), by (repeat (first | exact Below.refl _ _ | assumption | (refine K.below_drewN ?_ _) | (refine Below.drew ?_) | (refine Below.alloc ?_ (by first | (simp; done) | (simp; omega) | omega) _) | (refine Below.setCell ?_ (by first | (simp; done) | (simp; omega) | omega) _)))⟩
set_option maxHeartbeats 2000000 in
theorem s_conv (A : Option Addr) (c : Nat) (l : List M.Unit) (B : Option Addr) (d : Nat) (k : List Int) (A2 : Option Addr) (c2 : Nat) (l2 : List M.Unit) (num : Int) (den : Int) (w : World) (hl : l.length ≤ 1048576) (hs : ∀ u ∈ l, u.name.size ≤ 9223372036854775807) (hc : l.length ≤ c) (hcc : c ≤ 9223372036854775807) (ha : K.Rd w 2 A l.length (l.flatMap M.unitCells)) (hl2 : l2.length ≤ 1048576) (hs2 : ∀ u ∈ l2, u.name.size ≤ 9223372036854775807) (hc2 : l2.length ≤ c2) (hcc2 : c2 ≤ 9223372036854775807) (ha2 : K.Rd w 2 A2 l2.length (l2.flatMap M.unitCells)) (hk : k.length ≤ 1048576) (hb : K.Rd w 1 B k.length (k.map (Value.int .i64))) :
    Calls Try.prog 44 #[.slice A l.length c, .agg #[.slice B k.length d], .slice A2 l2.length c2, .int .i64 num, .int .i64 den] w (AmountH.RetAmountB w (M.convTo l k l2 num den).1 (M.convTo l k l2 num den).2) := by
  obtain ⟨o0, ho0⟩ : ∃ o : Obj, o = .cells #[.slice B k.length d] 40 := ⟨_, rfl⟩
  obtain ⟨o1, ho1⟩ : ∃ o : Obj, o = .cells #[.slice none 0 0] 40 := ⟨_, rfl⟩
  have r : K.Rd ((w.alloc o0).alloc o1) 2 A l.length (l.flatMap M.unitCells) := by (repeat (first | with_reducible assumption | (with_reducible refine K.Rd.alloc ?_ _) | (with_reducible refine K.Rd.drew ?_) | (with_reducible refine K.Rd.below ?_ (by with_reducible assumption))))
  have r2 : K.Rd ((w.alloc o0).alloc o1) 2 A2 l2.length (l2.flatMap M.unitCells) := by (repeat (first | with_reducible assumption | (with_reducible refine K.Rd.alloc ?_ _) | (with_reducible refine K.Rd.drew ?_) | (with_reducible refine K.Rd.below ?_ (by with_reducible assumption))))
  have t : K.Rd ((w.alloc o0).alloc o1) 1 B k.length (k.map (Value.int .i64)) := by (repeat (first | with_reducible assumption | (with_reducible refine K.Rd.alloc ?_ _) | (with_reducible refine K.Rd.drew ?_) | (with_reducible refine K.Rd.below ?_ (by with_reducible assumption))))
  have x : K.Box (w.alloc o0) (w.heap.size) [.slice B k.length d] := by have h := K.Box.new w #[.slice B k.length d] 40; rw [ho0]; exact h
  replace x := x.alloc o1
  have z : K.Own ((w.alloc o0).alloc o1) (w.heap.size + 1) [.slice none 0 0] := by have h := K.Own.new (w.alloc o0) #[.slice none 0 0] 40; rw [World.size_alloc] at h; rw [ho1]; exact h
  have bb : Below w.heap.size w ((w.alloc o0).alloc o1) := by (repeat (first | exact Below.refl _ _ | assumption | (refine K.below_drewN ?_ _) | (refine Below.drew ?_) | (refine Below.alloc ?_ (by first | (simp; done) | (simp; omega) | omega) _) | (refine Below.setCell ?_ (by first | (simp; done) | (simp; omega) | omega) _)))
  subst ho0 ho1
  have HS0 := Lib.hid (fun w h h' => AmountF.s_amt A c l B d k w hl hk hs hc hcc h h')
  have HS1 := Lib.hid (fun w h  => Sys.s_sys A2 c2 l2 w hl2 hs2 hc2 hcc2 h)
  cases hok0 : M.amtOk l k with
  | false =>
    rw [M.convTo_no (fun h => by have h := h.1; rw [hok0] at h; cases h)]
    rw [hok0] at HS0
    clear hok0
    go_enter Try.func44, Try.ntmps44
    have px := x.c1
    have gx := x.1
    have pz := z.c1.2.2
    go_wp2_with fail
    refine (HS0.out _ r t).mono ?_
    rintro e w1 ⟨rfl, b1⟩
    clear px gx pz
    replace r := r.below b1
    replace r2 := r2.below b1
    replace t := t.below b1
    replace x := x.below b1
    replace z := z.below b1
    replace bb := bb.trans (b1.mono bb.size)
    clear b1
    obtain ⟨z1, z2, z3⟩ := z.c1
    clear x
    go_wp2_with fail
    exact bodyPost_ret (v := .tuple #[.agg #[.slice none 0 0], .bool false]) (by simp [results, Try.results44, go_sem, z1]) rfl ⟨none, 0, rfl, K.Row.nil _ _ _ _, bb.setCell (by simp; try omega) _⟩
  | true =>
    rw [hok0] at HS0
    cases hok1 : M.sysOk l2 with
    | false =>
      rw [M.convTo_no (fun h => by have h := h.2.1; rw [hok1] at h; cases h)]
      rw [hok1] at HS1
      clear hok1
      go_enter Try.func44, Try.ntmps44
      have px := x.c1
      have gx := x.1
      have pz := z.c1.2.2
      go_wp2_with fail
      refine (HS0.out _ r t).mono ?_
      rintro e w1 ⟨rfl, b1⟩
      clear px gx pz
      replace r := r.below b1
      replace r2 := r2.below b1
      replace t := t.below b1
      replace x := x.below b1
      replace z := z.below b1
      replace bb := bb.trans (b1.mono bb.size)
      clear b1
      have px := x.c1
      have gx := x.1
      have pz := z.c1.2.2
      go_wp2_with fail
      refine (HS1.out _ r2).mono ?_
      rintro e w2 ⟨rfl, b2⟩
      clear px gx pz
      replace r := r.below b2
      replace r2 := r2.below b2
      replace t := t.below b2
      replace x := x.below b2
      replace z := z.below b2
      replace bb := bb.trans (b2.mono bb.size)
      clear b2
      obtain ⟨z1, z2, z3⟩ := z.c1
      clear x
      go_wp2_with fail
      exact bodyPost_ret (v := .tuple #[.agg #[.slice none 0 0], .bool false]) (by simp [results, Try.results44, go_sem, z1]) rfl ⟨none, 0, rfl, K.Row.nil _ _ _ _, bb.setCell (by simp; try omega) _⟩
    | true =>
      rw [hok1] at HS1
      by_cases hn2 : 1 ≤ num ∧ num ≤ 10000
      case' neg =>
        rw [M.convTo_no (fun h => by have := M.inR_iff.1 (h.2.2.1); omega)]
        go_enter Try.func44, Try.ntmps44
        have px := x.c1
        have gx := x.1
        have pz := z.c1.2.2
        go_wp2_with fail
        refine (HS0.out _ r t).mono ?_
        rintro e w1 ⟨rfl, b1⟩
        clear px gx pz
        replace r := r.below b1
        replace r2 := r2.below b1
        replace t := t.below b1
        replace x := x.below b1
        replace z := z.below b1
        replace bb := bb.trans (b1.mono bb.size)
        clear b1
        have px := x.c1
        have gx := x.1
        have pz := z.c1.2.2
        go_wp2_with fail
        refine (HS1.out _ r2).mono ?_
        rintro e w2 ⟨rfl, b2⟩
        clear px gx pz
        replace r := r.below b2
        replace r2 := r2.below b2
        replace t := t.below b2
        replace x := x.below b2
        replace z := z.below b2
        replace bb := bb.trans (b2.mono bb.size)
        clear b2
        have px := x.c1
        have gx := x.1
        have pz := z.c1.2.2
        go_wp2_with fail
        refine (Base.s_in_no _ _ _ _ (by omega)).mono ?_
        rintro e w3 ⟨rfl, rfl⟩
        clear px gx pz
        obtain ⟨z1, z2, z3⟩ := z.c1
        clear x
        go_wp2_with fail
        exact bodyPost_ret (v := .tuple #[.agg #[.slice none 0 0], .bool false]) (by simp [results, Try.results44, go_sem, z1]) rfl ⟨none, 0, rfl, K.Row.nil _ _ _ _, bb.setCell (by simp; try omega) _⟩
      case' pos =>
        obtain ⟨hn2a, hn2b⟩ := hn2
        by_cases hn3 : 1 ≤ den ∧ den ≤ 10000
        case' neg =>
          rw [M.convTo_no (fun h => by have := M.inR_iff.1 (h.2.2.2); omega)]
          go_enter Try.func44, Try.ntmps44
          have px := x.c1
          have gx := x.1
          have pz := z.c1.2.2
          go_wp2_with fail
          refine (HS0.out _ r t).mono ?_
          rintro e w1 ⟨rfl, b1⟩
          clear px gx pz
          replace r := r.below b1
          replace r2 := r2.below b1
          replace t := t.below b1
          replace x := x.below b1
          replace z := z.below b1
          replace bb := bb.trans (b1.mono bb.size)
          clear b1
          have px := x.c1
          have gx := x.1
          have pz := z.c1.2.2
          go_wp2_with fail
          refine (HS1.out _ r2).mono ?_
          rintro e w2 ⟨rfl, b2⟩
          clear px gx pz
          replace r := r.below b2
          replace r2 := r2.below b2
          replace t := t.below b2
          replace x := x.below b2
          replace z := z.below b2
          replace bb := bb.trans (b2.mono bb.size)
          clear b2
          have px := x.c1
          have gx := x.1
          have pz := z.c1.2.2
          go_wp2_with fail
          refine (Base.s_in_yes _ _ _ _ (by omega) (by omega)).mono ?_
          rintro e w3 ⟨rfl, rfl⟩
          clear px gx pz
          have px := x.c1
          have gx := x.1
          have pz := z.c1.2.2
          go_wp2_with fail
          refine (Base.s_in_no _ _ _ _ (by omega)).mono ?_
          rintro e w4 ⟨rfl, rfl⟩
          clear px gx pz
          obtain ⟨z1, z2, z3⟩ := z.c1
          clear x
          go_wp2_with fail
          exact bodyPost_ret (v := .tuple #[.agg #[.slice none 0 0], .bool false]) (by simp [results, Try.results44, go_sem, z1]) rfl ⟨none, 0, rfl, K.Row.nil _ _ _ _, bb.setCell (by simp; try omega) _⟩
        case' pos =>
          obtain ⟨hn3a, hn3b⟩ := hn3
          rw [M.convTo_yes hok0 hok1 (M.inR_yes hn2a hn2b) (M.inR_yes hn3a hn3b)]
          have v1 := M.aV_total hok0
          have HV := Lib.hid (fun w h h' => Val.s_val A c l B d k w hok0 h h')
          obtain ⟨a, hva⟩ : ∃ a, a = M.aV l k := ⟨_, rfl⟩
          rw [← hva] at v1 HV ⊢
          obtain ⟨v1a, v1b⟩ := v1
          have m1 : 0 ≤ a * num := Int.mul_nonneg v1a (by omega)
          have m2 : a * num ≤ 1020000000000000000 := by have h1 := Int.mul_le_mul_of_nonneg_left hn2b v1a; omega
          have m3 : 0 ≤ a * num / den := Int.ediv_nonneg m1 (by omega)
          have m4 : a * num / den ≤ a * num := Int.ediv_le_self den m1
          have HP := Lib.hid (fun w h => Proper.s_proper A2 c2 l2 (a * num / den) w hok1 (by omega) hs2 hc2 hcc2 h)
          generalize M.proper l2 (a * num / den) = R at HP ⊢
          rw [← M.conv_eq a num den (by omega)] at HP
          clear hok0 hok1 hva
          go_enter Try.func44, Try.ntmps44
          have px := x.c1
          have gx := x.1
          have pz := z.c1.2.2
          go_wp2_with fail
          refine (HS0.out _ r t).mono ?_
          rintro e w1 ⟨rfl, b1⟩
          clear px gx pz
          replace r := r.below b1
          replace r2 := r2.below b1
          replace t := t.below b1
          replace x := x.below b1
          replace z := z.below b1
          replace bb := bb.trans (b1.mono bb.size)
          clear b1
          have px := x.c1
          have gx := x.1
          have pz := z.c1.2.2
          go_wp2_with fail
          refine (HS1.out _ r2).mono ?_
          rintro e w2 ⟨rfl, b2⟩
          clear px gx pz
          replace r := r.below b2
          replace r2 := r2.below b2
          replace t := t.below b2
          replace x := x.below b2
          replace z := z.below b2
          replace bb := bb.trans (b2.mono bb.size)
          clear b2
          have px := x.c1
          have gx := x.1
          have pz := z.c1.2.2
          go_wp2_with fail
          refine (Base.s_in_yes _ _ _ _ (by omega) (by omega)).mono ?_
          rintro e w3 ⟨rfl, rfl⟩
          clear px gx pz
          have px := x.c1
          have gx := x.1
          have pz := z.c1.2.2
          go_wp2_with fail
          refine (Base.s_in_yes _ _ _ _ (by omega) (by omega)).mono ?_
          rintro e w4 ⟨rfl, rfl⟩
          clear px gx pz
          have px := x.c1
          have gx := x.1
          have pz := z.c1.2.2
          go_wp2_with fail
          refine (HV.out _ r t).mono ?_
          rintro e w5 ⟨rfl, b5⟩
          clear px gx pz
          replace r := r.below b5
          replace r2 := r2.below b5
          replace t := t.below b5
          replace x := x.below b5
          replace z := z.below b5
          replace bb := bb.trans (b5.mono bb.size)
          clear b5
          have px := x.c1
          have gx := x.1
          have pz := z.c1.2.2
          have q1 : a.tdiv den = a / den := Int.tdiv_eq_ediv_of_nonneg v1a
          have q2 : a.tmod den = a % den := Int.tmod_eq_emod_of_nonneg v1a
          have d1 : 0 ≤ a / den := Int.ediv_nonneg v1a (by omega)
          have d2 : a / den ≤ a := Int.ediv_le_self den v1a
          have d3 : 0 ≤ a % den := Int.emod_nonneg a (by omega)
          have d4 : a % den ≤ 10000 := by have := Int.emod_lt_of_pos a (show 0 < den by omega); omega
          have e1 : 0 ≤ a / den * num := Int.mul_nonneg d1 (by omega)
          have e2 : a / den * num ≤ 1020000000000000000 := by have h1 := Int.mul_le_mul_of_nonneg_left hn2b d1; omega
          have e3 : 0 ≤ a % den * num := Int.mul_nonneg d3 (by omega)
          have e4 : a % den * num ≤ 100000000 := by have h1 := Int.mul_le_mul_of_nonneg_left hn2b d3; omega
          have e5 : 0 ≤ a % den * num / den := Int.ediv_nonneg e3 (by omega)
          have e6 : a % den * num / den ≤ a % den * num := Int.ediv_le_self den e3
          have q3 : (a % den * num).tdiv den = a % den * num / den := Int.tdiv_eq_ediv_of_nonneg e3
          have u0 : IntKind.i64.wrap (a / den) = a / den := IntWalk.i64_in _ (by omega)
          have u1 : IntKind.i64.wrap (a % den) = a % den := IntWalk.i64_in _ (by omega)
          have u2 : IntKind.i64.wrap (a / den * num) = a / den * num := IntWalk.i64_in _ (by omega)
          have u3 : IntKind.i64.wrap (a % den * num) = a % den * num := IntWalk.i64_in _ (by omega)
          have u4 : IntKind.i64.wrap (a % den * num / den) = a % den * num / den := IntWalk.i64_in _ (by omega)
          have u5 : IntKind.i64.wrap (a / den * num + a % den * num / den) = a / den * num + a % den * num / den := IntWalk.i64_in _ (by omega)
          have nz : ¬ den = 0 := by omega
          go_wp2_with fail
          have BB := Lib.hid bb
          clear bb
          go_region_held3 (fun w' => True)
            (trivial)
            (first | (go_at_call 71; first | (((with_reducible refine (HP.out (w5.alloc (.cells #[.slice none 0 0] 40)).drew (by (repeat (first | with_reducible assumption | (with_reducible refine K.Rd.alloc ?_ _) | (with_reducible refine K.Rd.drew ?_) | (with_reducible refine K.Rd.below ?_ (by with_reducible assumption)))))).mono ?_)); rintro e w6 ⟨X, n, rfl, row, b6⟩; have ow := (K.Own.new w5 #[.slice none 0 0] 40).drew.below b6; obtain ⟨cw, fw, lw⟩ := ow.c1; have z6 : K.Own w6 (w.heap.size + 1) [.slice none 0 0] := (by (repeat (first | with_reducible assumption | (with_reducible refine K.Own.alloc ?_ _) | (with_reducible refine K.Own.drew ?_) | (with_reducible refine K.Own.setOther ?_ (by simp <;> omega) _) | (with_reducible refine K.Own.below ?_ (by with_reducible assumption))))); have bb6 := Lib.hid (((BB.out.alloc BB.out.size (.cells #[.slice none 0 0] 40)).drew).trans (b6.mono (by have hq := BB.out.size; simp <;> omega))); have s6 := b6.size; (try simp at s6); have hlt := row.lt; (try simp at hlt); have rw0 := row.more (lo' := w.heap.size) (by have hq := BB.out.size; simp <;> omega); obtain ⟨zc, zf, zl⟩ := z6.c1) | (((with_reducible refine (HP.out _ (by (repeat (first | with_reducible assumption | (with_reducible refine K.Rd.alloc ?_ _) | (with_reducible refine K.Rd.drew ?_) | (with_reducible refine K.Rd.below ?_ (by with_reducible assumption)))))).mono ?_)); rintro e w6 ⟨X, n, rfl, row, b6⟩; (try (replace ow := ow.below b6; obtain ⟨cw, fw, lw⟩ := ow.c1)); have z6 : K.Own w6 (w.heap.size + 1) [.slice none 0 0] := (by (repeat (first | with_reducible assumption | (with_reducible refine K.Own.alloc ?_ _) | (with_reducible refine K.Own.drew ?_) | (with_reducible refine K.Own.setOther ?_ (by simp <;> omega) _) | (with_reducible refine K.Own.below ?_ (by with_reducible assumption))))); have bb6 := Lib.hid (BB.out.drew.trans (b6.mono (by have hq := BB.out.size; simp <;> omega))); have s6 := b6.size; (try simp at s6); have hlt := row.lt; (try simp at hlt); have rw0 := row.more (lo' := w.heap.size) (by have hq := BB.out.size; simp <;> omega); obtain ⟨zc, zf, zl⟩ := z6.c1)))
          all_goals clear u0 u1 u2 u3 u4 u5 q1 q2 q3
          all_goals
            obtain ⟨z1, z2, z3⟩ := z6.c1
            have h0 := BB.out.size
            have h6 := bb6.out.size
            have bbz := bb6.out
            go_wp2_with fail
          all_goals
            exact bodyPost_ret (v := .tuple #[.agg #[.slice X R.1.length n], .bool R.2]) (by first | (simp [results, Try.results44, go_sem]; done) | (simp [results, Try.results44, go_sem, z1]; done) | (simp [results, Try.results44, go_sem, z1, World.cell?_alloc_some]; done)) rfl ⟨X, n, rfl, by (repeat (first | with_reducible assumption | (with_reducible refine K.Row.setNe ?_ (fun g hg => by have hq := hlt g hg; simp at hq ⊢; omega) _) | (with_reducible refine K.Row.alloc ?_ _) | (with_reducible refine K.Row.drew ?_))), by (repeat (first | exact Below.refl _ _ | assumption | (refine K.below_drewN ?_ _) | (refine Below.drew ?_) | (refine Below.alloc ?_ (by first | (simp; done) | (simp; omega) | omega) _) | (refine Below.setCell ?_ (by first | (simp; done) | (simp; omega) | omega) _)))⟩
end Go.Proofs.Ytfgnmjnlhnpmoaa.AmtOps
