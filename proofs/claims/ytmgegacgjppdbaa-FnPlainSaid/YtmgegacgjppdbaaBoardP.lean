/-
  Walks: making a board plain, in the program.
-/
import Derived.Test.YtmgegacgjppdbaaBoardV
import Derived.Test.YtmgegacgjppdbaaBoardF
import Derived.Test.YtmgegacgjppdbaaPlainM
import Derived.Test.YtmgegacgjppdbaaBoardH
import Derived.Test.YtmgegacgjppdbaaKit5
import Derived.Deep.DeepCutAuto
set_option linter.unusedVariables false
namespace Go.Proofs.Ytmgegacgjppdbaa.M
theorem changed_c1 {L Q : List Int} {n : Int} {kk : Nat} (hk : kk < L.length) (h : plOk (c1 (L, Q, n) kk) = true) : changedB L Q true kk (-5) 1 = (((c1 (L, Q, n) kk).1, (c1 (L, Q, n) kk).2.1), true) := by
  unfold changedB
  rw [if_pos]
  · simp [chgB, c1]
  · refine ⟨by omega, by omega, .inl rfl, ?_⟩
    simpa [chgB, c1, plOk] using h
theorem changed_c1n {L Q : List Int} {n : Int} {kk : Nat} (hk : kk < L.length) (h : plOk (c1 (L, Q, n) kk) = false) : changedB L Q true kk (-5) 1 = (([], []), false) := by
  unfold changedB
  rw [if_neg]
  rintro ⟨_, _, _, h'⟩
  have : plOk (c1 (L, Q, n) kk) = true := by simpa [chgB, c1, plOk] using h'
  rw [this] at h; cases h
theorem changed_c2 {L Q : List Int} {n : Int} {kk : Nat} (hk : kk + 1 < L.length) (h : plOk (c2 (L, Q, n) kk) = true) : changedB L Q false kk (-2) 1 = (((c2 (L, Q, n) kk).1, (c2 (L, Q, n) kk).2.1), true) := by
  unfold changedB
  rw [if_pos]
  · simp [chgB, c2]
  · refine ⟨by omega, by omega, .inr (by omega), ?_⟩
    simpa [chgB, c2, plOk] using h
theorem changed_c2n {L Q : List Int} {n : Int} {kk : Nat} (h : ¬ (kk + 1 < L.length ∧ plOk (c2 (L, Q, n) kk) = true)) : changedB L Q false kk (-2) 1 = (([], []), false) := by
  unfold changedB
  rw [if_neg]
  rintro ⟨_, _, h1, h'⟩
  refine h ⟨?_, by simpa [chgB, c2, plOk] using h'⟩
  rcases h1 with h1 | h1
  · cases h1
  · omega
theorem plEnd_plain {s : PS} (hok : plOk s = true) (hp : ∀ j, j < s.1.length → s.1.getD j 0 ≤ 4 ∧ s.2.1.getD j 0 ≤ 1) : plEnd (some s) = ((s.1, s.2.1), s.2.2, true) := by
  obtain ⟨_, b, c, d⟩ := (plOk_ix s).1 hok
  have : bPlain s.1 s.2.1 = true := (bPlain_ix _ _).2 ⟨fun j hj => ⟨(c j hj).1, (hp j hj).1⟩, fun j hj => ⟨(d j hj).1, (hp j (by omega)).2⟩⟩
  simp [plEnd, this]
end Go.Proofs.Ytmgegacgjppdbaa.M
namespace Go.Proofs.Ytmgegacgjppdbaa.BoardH
open Go.RowKit
/-- a call that returns a board of its own, a number and a bool. -/
def RetBoardIB (w : World) (l k : List Int) (n : Int) (b : Bool) (e : Ending) (w' : World) : Prop :=
  ∃ A c B d, e = .returned (.tuple #[.agg #[.slice A l.length c, .slice B k.length d], .int .i64 n, .bool b]) ∧ K.Row w' w.heap.size 3 1 A l.length c (l.map (Value.int .i64)) ∧ K.Row w' w.heap.size 3 1 B k.length d (k.map (Value.int .i64)) ∧ (∀ g, K.blk A = some g → K.blk B ≠ some g) ∧ Below w.heap.size w w'
end Go.Proofs.Ytmgegacgjppdbaa.BoardH
namespace Go.Proofs.Ytmgegacgjppdbaa.BoardP
open Go.RowKit
/-- a board of one's own in block g; the parameter lies at w.heap.size, the result at w.heap.size + 1. -/
structure Pl (w wr : World) (g : Nat) (P0 P1 : Value) (X : Option Addr) (n : Nat) (L : List Int) (Y : Option Addr) (m : Nat) (Q : List Int) : Prop where
  row1 : K.Row wr (w.heap.size + 1 + 1) 3 1 X L.length n (L.map (Value.int .i64))
  row2 : K.Row wr (w.heap.size + 1 + 1) 3 1 Y Q.length m (Q.map (Value.int .i64))
  ap : ∀ q, K.blk X = some q → K.blk Y ≠ some q
  nb1 : K.blk X ≠ some g
  nb2 : K.blk Y ≠ some g
  box : K.Own wr g [.slice X L.length n, .slice Y Q.length m]
  res : K.Own wr (w.heap.size + 1) [.slice none 0 0, .slice none 0 0]
  par : K.Box wr w.heap.size [P0, P1]
  bel : Below w.heap.size w wr
  glo : w.heap.size + 1 + 1 ≤ g
section
variable {w wr w2 : World} {g : Nat} {P0 P1 : Value} {X Y : Option Addr} {n m : Nat} {L Q : List Int}
theorem Pl.below (F : Pl w wr g P0 P1 X n L Y m Q) (b : Below wr.heap.size wr w2) : Pl w w2 g P0 P1 X n L Y m Q :=
  ⟨F.row1.below b, F.row2.below b, F.ap, F.nb1, F.nb2, F.box.below b, F.res.below b, F.par.below b, F.bel.trans (b.mono F.bel.size), F.glo⟩
theorem Pl.alloc (F : Pl w wr g P0 P1 X n L Y m Q) (o : Obj) : Pl w (wr.alloc o) g P0 P1 X n L Y m Q := F.below ((Below.refl _ _).alloc (Nat.le_refl _) o)
/-- another board is put in. -/
theorem Pl.put (F : Pl w wr g P0 P1 X n L Y m Q) {lo : Nat} {X' Y' : Option Addr} {n' m' : Nat} {L' Q' : List Int} (hlo : g < lo)
    (r1 : K.Row wr lo 3 1 X' L'.length n' (L'.map (Value.int .i64))) (r2 : K.Row wr lo 3 1 Y' Q'.length m' (Q'.map (Value.int .i64))) (ap : ∀ q, K.blk X' = some q → K.blk Y' ≠ some q) :
    Pl w ((wr.setCell ⟨g, 0, none⟩ (.slice X' L'.length n')).setCell ⟨g, 1, none⟩ (.slice Y' Q'.length m')) g P0 P1 X' n' L' Y' m' Q' := by
  have hg := F.glo
  refine ⟨?_, ?_, ap, fun e => by have := (r1.lt _ e).1; omega, fun e => by have := (r2.lt _ e).1; omega, F.box.set2 _ _, ?_, ?_, ?_, F.glo⟩
  · exact ((r1.setOther (by simp only; omega) _).setOther (by simp only; omega) _).more (by omega)
  · exact ((r2.setOther (by simp only; omega) _).setOther (by simp only; omega) _).more (by omega)
  · exact (F.res.setOther (by simp only; omega) _).setOther (by simp only; omega) _
  · exact (F.par.setOther (by simp only; omega) _).setOther (by simp only; omega) _
  · exact (F.bel.setCell (by simp only; omega) _).setCell (by simp only; omega) _
end
set_option maxRecDepth 100000 in
set_option maxHeartbeats 4000000 in
theorem i_plain (A : Option Addr) (c : Nat) (l : List Int) (B : Option Addr) (d : Nat) (k : List Int) (w : World) (hl : l.length ≤ 1048576) (hk : k.length ≤ 1048576) (ha : K.Rd w 1 A l.length (l.map (Value.int .i64))) (hb : K.Rd w 1 B k.length (k.map (Value.int .i64))) :
    Calls Try.prog 42 #[.agg #[.slice A l.length c, .slice B k.length d]] w (BoardH.RetBoardIB w (M.plainB l k).1.1 (M.plainB l k).1.2 (M.plainB l k).2.1 (M.plainB l k).2.2) := by
  obtain ⟨o, ho⟩ : ∃ o : Obj, o = .cells #[.slice A l.length c, .slice B k.length d] 27 := ⟨_, rfl⟩
  obtain ⟨o2, ho2⟩ : ∃ o : Obj, o = .cells #[.slice none 0 0, .slice none 0 0] 27 := ⟨_, rfl⟩
  have r := (ha.alloc o).alloc o2
  have t := (hb.alloc o).alloc o2
  have x : K.Box ((w.alloc o).alloc o2) w.heap.size [.slice A l.length c, .slice B k.length d] := by rw [ho]; exact (K.Box.new w #[.slice A l.length c, .slice B k.length d] 27).alloc _
  have z : K.Own ((w.alloc o).alloc o2) (w.heap.size + 1) [.slice none 0 0, .slice none 0 0] := by have h := K.Own.new (w.alloc o) #[.slice none 0 0, .slice none 0 0] 27; rw [World.size_alloc] at h; rw [ho2]; exact h
  have bb : Below w.heap.size w ((w.alloc o).alloc o2) := ((Below.refl _ _).alloc (Nat.le_refl _) _).alloc (by simp) _
  have hs0 : w.heap.size + 1 + 1 ≤ ((w.alloc o).alloc o2).heap.size := by simp
  have HS := Lib.hid (BoardF.i_board A c l B d k _ hl hk r t)
  subst ho ho2
  clear ha hb
  cases hok : M.bOk l k with
  | false =>
    rw [hok] at HS
    rw [M.plainB_no hok]
    clear hok
    obtain ⟨x0, x1⟩ := x.c2
    have xg := x.1
    go_enter Try.func42, Try.ntmps42
    go_wp2_with fail
    refine HS.out.mono ?_
    rintro e w1 ⟨rfl, b1⟩
    obtain ⟨z0, z1, z2, z3, z4⟩ := (z.below b1).c2
    have bbz := bb.trans (b1.mono bb.size)
    clear x0 x1 xg x z r t
    go_wp2_with fail
    exact bodyPost_ret (v := .tuple #[.agg #[.slice none 0 0, .slice none 0 0], .int .i64 0, .bool false]) (by simp [results, Try.results42, go_sem, *]) rfl ⟨none, 0, none, 0, rfl, K.Row.nil _ _ _ _, K.Row.nil _ _ _ _, fun g h => by simp [K.blk] at h, by (repeat (first | exact Below.refl _ _ | assumption | (refine K.below_drewN ?_ _) | (refine Below.drew ?_) | (refine Below.alloc ?_ (by first | (simp; done) | (simp; omega) | omega) _) | (refine Below.setCell ?_ (by first | (simp; done) | (simp; omega) | omega) _)))⟩
  | true =>
    rw [hok] at HS
    obtain ⟨⟨hm1, hm6⟩, hkl, _⟩ := (M.bOk_iff l k).1 hok
    obtain ⟨RR, hRR⟩ : ∃ X, X = M.plainB l k := ⟨_, rfl⟩
    rw [← hRR]
    rw [M.plainB_yes hok] at hRR
    obtain ⟨R0, hR0⟩ : ∃ X, X = M.plFrom l.length (some (l, k, 0)) l.length 0 := ⟨_, rfl⟩
    rw [← hR0] at hRR
    have HRR := Lib.hid hRR
    have HR0 := Lib.hid hR0
    have HKL := Lib.hid hkl
    have HOK := Lib.hid hok
    clear hRR hR0 hkl hok
    obtain ⟨x0, x1⟩ := x.c2
    have xg := x.1
    go_enter Try.func42, Try.ntmps42
    go_wp2_with fail
    refine HS.out.mono ?_
    rintro e w1 ⟨rfl, b1⟩
    clear HS x0 x1 xg
    replace x := x.below b1
    replace z := z.below b1
    replace r := r.below b1
    replace t := t.below b1
    replace hs0 : w.heap.size + 1 + 1 ≤ w1.heap.size := by have := b1.size; omega
    replace bb := bb.trans (b1.mono bb.size)
    clear b1
    go_upto_region 3 with fail
    go_cut [5] (fun sb wx => ∃ (X : Option Addr) (n1 : Nat) (Y : Option Addr) (m1 g : Nat), sb = .pointer (some ⟨g, 0, none⟩) ∧ K.Own wx g [.slice X l.length n1, .slice Y k.length m1] ∧ K.Row wx w1.heap.size 3 1 X l.length n1 (l.map (Value.int .i64)) ∧ K.Row wx w1.heap.size 3 1 Y k.length m1 (k.map (Value.int .i64)) ∧ (∀ q, K.blk X = some q → K.blk Y ≠ some q) ∧ K.blk X ≠ some g ∧ K.blk Y ≠ some g ∧ w1.heap.size ≤ g ∧ Below w1.heap.size w1 wx)
    case first =>
      have p0 := x.c2
      have pg := x.1
      have BB := Lib.hid (Below.refl w1.heap.size w1)
      go_region_held3 (fun w' => w'.cell? ⟨w.heap.size, 0, none⟩ = some (.slice A l.length c) ∧ w'.cell? ⟨w.heap.size, 1, none⟩ = some (.slice B k.length d))
        (((try dsimp only); refine ⟨(by (refine K.Box.at_ (vs := [.slice A l.length c, .slice B k.length d]) (j := 0) ?_ rfl; (repeat (first | with_reducible assumption | (with_reducible refine K.Box.alloc ?_ _) | (with_reducible refine K.Box.drew ?_) | (with_reducible refine K.Box.setOther ?_ (by simp <;> omega) _) | (with_reducible refine K.Box.below ?_ (by with_reducible assumption)))))), (by (refine K.Box.at_ (vs := [.slice A l.length c, .slice B k.length d]) (j := 1) ?_ rfl; (repeat (first | with_reducible assumption | (with_reducible refine K.Box.alloc ?_ _) | (with_reducible refine K.Box.drew ?_) | (with_reducible refine K.Box.setOther ?_ (by simp <;> omega) _) | (with_reducible refine K.Box.below ?_ (by with_reducible assumption))))))⟩))
        (first | (go_at_call 73; first | (((with_reducible refine (BoardO.i_copy A c l (w1.alloc (.cells #[.slice none 0 0, .slice none 0 0] 27)).drew hl (by (repeat (first | with_reducible assumption | (with_reducible refine K.Rd.alloc ?_ _) | (with_reducible refine K.Rd.drew ?_) | (with_reducible refine K.Rd.below ?_ (by with_reducible assumption)))))).mono ?_)); rintro e wv1 ⟨X, n1, rfl, row, b1⟩; have ow := (K.Own.new w1 #[.slice none 0 0, .slice none 0 0] 27).drew.below b1; obtain ⟨cw, cw1, fw, fw1, lw⟩ := ow.c2; have bb1 := Lib.hid (((BB.out.alloc BB.out.size (.cells #[.slice none 0 0, .slice none 0 0] 27)).drew).trans (b1.mono (by have hq := BB.out.size; simp <;> omega))); have s1 := b1.size; (try simp at s1); have hlt := row.lt; (try simp at hlt); have rw0 := row.more (lo' := w1.heap.size) (by have hq := BB.out.size; simp <;> omega)) | (((with_reducible refine (BoardO.i_copy A c l _ hl (by (repeat (first | with_reducible assumption | (with_reducible refine K.Rd.alloc ?_ _) | (with_reducible refine K.Rd.drew ?_) | (with_reducible refine K.Rd.below ?_ (by with_reducible assumption)))))).mono ?_)); rintro e wv1 ⟨X, n1, rfl, row, b1⟩; (try (replace ow := ow.below b1; obtain ⟨cw, cw1, fw, fw1, lw⟩ := ow.c2)); have bb1 := Lib.hid (BB.out.drew.trans (b1.mono (by have hq := BB.out.size; simp <;> omega))); have s1 := b1.size; (try simp at s1); have hlt := row.lt; (try simp at hlt); have rw0 := row.more (lo' := w1.heap.size) (by have hq := BB.out.size; simp <;> omega))) | (go_at_call 73; first | (((with_reducible refine (BoardO.i_copy B d k (wv1.alloc (.cells #[.slice none 0 0, .slice none 0 0] 27)) hk (by (repeat (first | with_reducible assumption | (with_reducible refine K.Rd.alloc ?_ _) | (with_reducible refine K.Rd.drew ?_) | (with_reducible refine K.Rd.below ?_ (by with_reducible assumption)))))).mono ?_)); rintro e wv2 ⟨Y, m1, rfl, row2, b2⟩; have ow := (K.Own.new wv1 #[.slice none 0 0, .slice none 0 0] 27).below b2; obtain ⟨cw, cw1, fw, fw1, lw⟩ := ow.c2; have bb2 := Lib.hid (((bb1.out.alloc bb1.out.size (.cells #[.slice none 0 0, .slice none 0 0] 27))).trans (b2.mono (by have hq := bb1.out.size; simp <;> omega))); have s2 := b2.size; (try simp at s2); have hlu := row2.lt; (try simp at hlu); have rw1 := row2.more (lo' := w1.heap.size) (by have hq := bb1.out.size; simp <;> omega); have apz : ∀ q, K.blk X = some q → K.blk Y ≠ some q := (fun q h1 h2 => by have e1 := hlt q h1; have e2 := hlu q h2; omega); have rwb := (rw0.alloc (.cells #[.slice none 0 0, .slice none 0 0] 27)).below b2) | (((with_reducible refine (BoardO.i_copy B d k _ hk (by (repeat (first | with_reducible assumption | (with_reducible refine K.Rd.alloc ?_ _) | (with_reducible refine K.Rd.drew ?_) | (with_reducible refine K.Rd.below ?_ (by with_reducible assumption)))))).mono ?_)); rintro e wv2 ⟨Y, m1, rfl, row2, b2⟩; (try (replace ow := ow.below b2; obtain ⟨cw, cw1, fw, fw1, lw⟩ := ow.c2)); have bb2 := Lib.hid (bb1.out.trans (b2.mono (by have hq := bb1.out.size; simp <;> omega))); have s2 := b2.size; (try simp at s2); have hlu := row2.lt; (try simp at hlu); have rw1 := row2.more (lo' := w1.heap.size) (by have hq := bb1.out.size; simp <;> omega); have apz : ∀ q, K.blk X = some q → K.blk Y ≠ some q := (fun q h1 h2 => by have e1 := hlt q h1; have e2 := hlu q h2; omega); have rwb := rw0.below b2)))
      all_goals have h0 := BB.out.size
      all_goals have h1 := bb1.out.size
      all_goals have h2 := bb2.out.size
      all_goals have bbz := bb2.out
      all_goals go_wp2_with fail
      all_goals go_meet
      all_goals exact ⟨X, n1, Y, m1, _, rfl, (by first | exact K.Own.set2 ow _ _ | exact K.Own.new _ _ _), by (repeat (first | with_reducible assumption | (with_reducible refine K.Row.setNe ?_ (fun g hg => by have hq := hlt g hg; simp at hq ⊢; omega) _) | (with_reducible refine K.Row.alloc ?_ _) | (with_reducible refine K.Row.drew ?_))), by (repeat (first | with_reducible assumption | (with_reducible refine K.Row.setNe ?_ (fun g hg => by have hq := hlu g hg; simp at hq ⊢; omega) _) | (with_reducible refine K.Row.alloc ?_ _) | (with_reducible refine K.Row.drew ?_))), apz, (fun h => by have hq := hlt _ h; first | omega | (simp at hq; done) | (simp at hq; omega)), (fun h => by have hq := hlu _ h; first | omega | (simp at hq; done) | (simp at hq; omega)), by first | omega | (simp; done) | (simp; omega), by (repeat (first | exact Below.refl _ _ | assumption | (refine K.below_drewN ?_ _) | (refine Below.drew ?_) | (refine Below.alloc ?_ (by first | (simp; done) | (simp; omega) | omega) _) | (refine Below.setCell ?_ (by first | (simp; done) | (simp; omega) | omega) _)))⟩
    obtain ⟨X, n1, Y, m1, g, rfl, own, rowx, rowy, apxy, nbx, nby, hgq, bq⟩ := hcut
    rename World => wq
    have HP := Lib.hid (⟨rowx.more hs0, rowy.more hs0, apxy, nbx, nby, own, z.below bq, x.below bq, bb.trans (bq.mono bb.size), by omega⟩ : Pl w wq g (.slice A l.length c) (.slice B k.length d) X n1 l Y m1 k)
    clear own rowx rowy apxy nbx nby hgq bq z x r t bb hs0
    obtain ⟨x0, x1⟩ := HP.out.par.c2
    have xg := HP.out.par.1
    go_wp2_with fail
    clear x0 x1 xg
    go_loopw [26, 6] (fun i cn wr => ∃ (kk : Nat) (X : Option Addr) (n : Nat) (L : List Int) (Y : Option Addr) (m : Nat) (Q : List Int) (cnt : Int), kk ≤ l.length ∧ i = .int .i64 (kk : Int) ∧ cn = .int .i64 cnt ∧ (0 ≤ cnt ∧ cnt ≤ 60 * kk) ∧ Hid (M.plFrom l.length (some (L, Q, cnt)) (l.length - kk) kk = R0) ∧ Hid (M.plOk (L, Q, cnt) = true) ∧ Hid (L.length = l.length) ∧ Hid (Q.length = l.length) ∧ Hid (∀ j, j < kk → L.getD j 0 ≤ 4 ∧ Q.getD j 0 ≤ 1) ∧ Hid (Pl w wr g (.slice A l.length c) (.slice B k.length d) X n L Y m Q)) (fun i _ _ => l.length - (intOf i).toNat)
    case atStart => exact ⟨0, X, n1, l, Y, m1, k, 0, Nat.zero_le _, rfl, rfl, by omega, Lib.hid HR0.out.symm, Lib.hid HOK.out, Lib.hid rfl, HKL, Lib.hid (fun j hj => by omega), HP⟩
    case round =>
      clear HP HR0 HOK HKL
      obtain ⟨kk, X, n, L, Y, m, Q, cnt, hkk, rfl, rfl, ⟨hc0, hc1⟩, HF, HOK, HLL, HQL, HPL, HP⟩ := hrel
      by_cases hlt : kk < l.length
      · have hlt1 : (kk : Int) < (l.length : Int) := by omega
        have hlt2 : (0 : Int) ≤ (kk : Int) := by omega
        obtain ⟨O1, hO1⟩ : ∃ X, X = M.plOne l.length (L, Q, cnt) kk := ⟨_, rfl⟩
        have HF1 := Lib.hid (show M.plFrom l.length O1 (l.length - (kk + 1)) (kk + 1) = R0 by have h := HF.out; rw [show l.length - kk = (l.length - (kk + 1)) + 1 by omega] at h; rw [hO1]; exact h)
        have HO1 := Lib.hid hO1.symm
        have hc6 : cnt ≤ 360 := by omega
        have hst : 5 * cnt + L.getD kk 0 ≤ 5 * cnt + 30 ∧ 0 ≤ L.getD kk 0 := by have h := ((M.plOk_ix _).1 HOK.out).2.2.1 kk (by have := HLL.out; simp only; omega); simp only at h; omega
        obtain ⟨hst1, hst0⟩ := hst
        clear hO1 HF
        go_wp2_with fail
        go_loopw [6] (fun cn wr => ∃ (X : Option Addr) (n : Nat) (L : List Int) (Y : Option Addr) (m : Nat) (Q : List Int) (cn2 : Int), cn = .int .i64 cn2 ∧ (cnt ≤ cn2 ∧ 5 * cn2 + L.getD kk 0 ≤ 5 * cnt + 30 ∧ 0 ≤ L.getD kk 0) ∧ Hid (M.plOne l.length (L, Q, cn2) kk = O1) ∧ Hid (M.plOk (L, Q, cn2) = true) ∧ Hid (L.length = l.length) ∧ Hid (Q.length = l.length) ∧ Hid (∀ j, j < kk → L.getD j 0 ≤ 4 ∧ Q.getD j 0 ≤ 1) ∧ Hid (Pl w wr g (.slice A l.length c) (.slice B k.length d) X n L Y m Q)) (fun cn _ => 1000 - (intOf cn).toNat)
        case atStart => exact ⟨X, n, L, Y, m, Q, cnt, rfl, ⟨by omega, hst1, hst0⟩, HO1, HOK, HLL, HQL, HPL, HP⟩
        case round =>
          clear HO1 HOK HLL HQL HPL HP hst1 hst0
          obtain ⟨X, n, L, Y, m, Q, cn2, rfl, ⟨hd0, hd1, hd2⟩, HO1, HOK, HLL, HQL, HPL, HP⟩ := hrel
          have hix : kk < L.length := by have := HLL.out; omega
          have hiy : (kk : Int) < (L.length : Int) := by omega
          obtain ⟨qa, eX, hql, hqa, cX, fX⟩ := HP.out.row1.int hix
          subst eX
          have hgd := M.getD_at L kk hix
          obtain ⟨b0, b1, b2, b3, bg⟩ := HP.out.box.c2
          have hgx : L.getD kk 0 ≤ 30 := by omega
          have hcn : cn2 ≤ 400 := by omega
          obtain ⟨v, hv⟩ : ∃ v, v = L[kk] := ⟨_, rfl⟩
          rw [← hv] at cX hgd
          clear hv
          by_cases h5 : 5 ≤ v
          · skip
            have HC := Lib.hid (fun w h h2 => BoardO.i_changed (some ⟨qa, 0, none⟩) n L Y m Q true kk (-5) 1 w (by have := HLL.out; omega) HOK.out (by omega) (by omega) h h2)
            cases hb : M.plOk (M.c1 (L, Q, cn2) kk) with
            | false =>
              rw [M.changed_c1n hix hb] at HC
              have HNO := Lib.hid (show RR = (([], []), 0, false) by rw [HRR.out, ← HF1.out, ← HO1.out, M.plOne_bad1 l.length (L, Q, cn2) kk HOK.out hix (by simp only; omega) hb, M.plFrom_none]; rfl)
              clear hb HPL HO1 HF1 HRR
              go_wp2_with fail
              refine (HC.out _ HP.out.row1.rd HP.out.row2.rd).mono ?_
              rintro e w3 ⟨X3, n3, Y3, m3, rfl, q3, v3, ap3, b3⟩
              obtain ⟨z0, z1, z2, z3, z4⟩ := (HP.out.res.below b3).c2
              have bbz := HP.out.bel.trans (b3.mono HP.out.bel.size)
              clear q3 v3 ap3
              go_wp2_with fail
              rw [HNO.out]
              exact bodyPost_ret (v := .tuple #[.agg #[.slice none 0 0, .slice none 0 0], .int .i64 0, .bool false]) (by simp [results, Try.results42, go_sem, *]) rfl ⟨none, 0, none, 0, rfl, K.Row.nil _ _ _ _, K.Row.nil _ _ _ _, fun g h => by simp [K.blk] at h, by (repeat (first | exact Below.refl _ _ | assumption | (refine K.below_drewN ?_ _) | (refine Below.drew ?_) | (refine Below.alloc ?_ (by first | (simp; done) | (simp; omega) | omega) _) | (refine Below.setCell ?_ (by first | (simp; done) | (simp; omega) | omega) _)))⟩
            | true =>
              rw [M.changed_c1 hix hb] at HC
              have HO2 := Lib.hid (show M.plOne l.length (M.c1 (L, Q, cn2) kk) kk = O1 by rw [← HO1.out]; exact M.plOne_c1 l.length (L, Q, cn2) kk hix (by have := HQL.out; have := HLL.out; simp only; omega) (by simp only; omega))
              have HOK2 := Lib.hid hb
              have hs1 : (M.c1 (L, Q, cn2) kk).1 = L.set kk (L.getD kk 0 + -5) := rfl
              have hs2 : (M.c1 (L, Q, cn2) kk).2.1 = Q.set kk (Q.getD kk 0 + 1) := rfl
              have HL2 := Lib.hid (show (M.c1 (L, Q, cn2) kk).1.length = l.length by rw [hs1, List.length_set]; exact HLL.out)
              have HQ2 := Lib.hid (show (M.c1 (L, Q, cn2) kk).2.1.length = l.length by rw [hs2, List.length_set]; exact HQL.out)
              have HPL2 := Lib.hid (show ∀ j, j < kk → (M.c1 (L, Q, cn2) kk).1.getD j 0 ≤ 4 ∧ (M.c1 (L, Q, cn2) kk).2.1.getD j 0 ≤ 1 by intro j hj; rw [hs1, hs2, M.getD_set_ne _ _ _ (by omega), M.getD_set_ne _ _ _ (by omega)]; exact HPL.out j hj)
              have hg2 : (M.c1 (L, Q, cn2) kk).1.getD kk 0 = v + -5 := by rw [hs1, M.getD_set_same _ _ hix, hgd]
              have HN2 : Hid ((M.c1 (L, Q, cn2) kk).2.2 = cn2 + 1) := Lib.hid rfl
              clear hb HPL HO1 hs1 hs2
              generalize M.c1 (L, Q, cn2) kk = S at *
              obtain ⟨L2, Q2, n2⟩ := S
              dsimp only at *
              have hn2 := HN2.out
              subst hn2
              have b4 := b3
              clear b3
              go_wp2_with fail
              refine (HC.out _ HP.out.row1.rd HP.out.row2.rd).mono ?_
              rintro e w3 ⟨X3, n3, Y3, m3, rfl, q3, v3, ap3, b3⟩
              have P3 := Lib.hid ((HP.out.below b3).alloc (.cells #[.slice X3 ((L2, Q2, cn2 + 1)).1.length n3, .slice Y3 ((L2, Q2, cn2 + 1)).2.1.length m3] 27))
              have r3 := Lib.hid (q3.alloc (.cells #[.slice X3 ((L2, Q2, cn2 + 1)).1.length n3, .slice Y3 ((L2, Q2, cn2 + 1)).2.1.length m3] 27))
              have r4 := Lib.hid (v3.alloc (.cells #[.slice X3 ((L2, Q2, cn2 + 1)).1.length n3, .slice Y3 ((L2, Q2, cn2 + 1)).2.1.length m3] 27))
              have x3 := Lib.hid (K.Box.new w3 #[.slice X3 ((L2, Q2, cn2 + 1)).1.length n3, .slice Y3 ((L2, Q2, cn2 + 1)).2.1.length m3] 27)
              clear q3 v3 b3
              go_upto_region 12 with fail
              obtain ⟨W, hW⟩ : ∃ X, X = w3.alloc (.cells #[.slice X3 ((L2, Q2, cn2 + 1)).1.length n3, .slice Y3 ((L2, Q2, cn2 + 1)).2.1.length m3] 27) := ⟨_, rfl⟩
              rw [← hW] at P3 r3 r4 x3 ⊢
              clear hW b0 b1 b2 b4 bg cX fX
              obtain ⟨b0, b1, b2, b3, bg⟩ := P3.out.box.c2
              obtain ⟨x0, x1⟩ := x3.out.c2
              have xg := x3.out.1
              have P4 := Lib.hid (P3.out.put (by have := HP.out.box.1.1; exact this) r3.out r4.out ap3)
              go_wp2_with fail
              go_roundw
              case rel => exact ⟨X3, n3, L2, Y3, m3, Q2, cn2 + 1, by go_num, ⟨by omega, by omega, by omega⟩, HO2, HOK2, HL2, HQ2, HPL2, P4⟩
              case measure => simp [intOf]; omega
          · skip
            have HO2 := Lib.hid (show M.pl2o l.length (L, Q, cn2) kk = O1 by rw [← HO1.out]; exact (M.plOne_low l.length (L, Q, cn2) kk HOK.out hix (by have := HQL.out; have := HLL.out; simp only; omega) (by simp only; omega) (by simp only; omega)).symm)
            have hl4 : L.getD kk 0 ≤ 4 := by omega
            have HL4 := Lib.hid hl4
            have hqq : Q.getD kk 0 ≤ 30 ∧ 0 ≤ Q.getD kk 0 := by have h := ((M.plOk_ix _).1 HOK.out).2.2.2 kk (by have := HQL.out; simp only; omega); simp only at h; omega
            obtain ⟨hqq1, hqq0⟩ := hqq
            have hcm : cn2 ≤ cnt + 6 := by omega
            clear HO1 hd1 hd2 hgx hl4
            go_wp2_with fail
            clear b0 b1 b2 b3 bg cX fX h5 hgd hiy hix hql hqa
            go_loopw [6] (fun cn wr => ∃ (X : Option Addr) (n : Nat) (L : List Int) (Y : Option Addr) (m : Nat) (Q : List Int) (cn3 : Int), cn = .int .i64 cn3 ∧ (cn2 ≤ cn3 ∧ 2 * cn3 + Q.getD kk 0 ≤ 2 * cn2 + 30 ∧ 0 ≤ Q.getD kk 0) ∧ Hid (M.pl2o l.length (L, Q, cn3) kk = O1) ∧ Hid (M.plOk (L, Q, cn3) = true) ∧ Hid (L.length = l.length) ∧ Hid (Q.length = l.length) ∧ Hid (L.getD kk 0 ≤ 4) ∧ Hid (∀ j, j < kk → L.getD j 0 ≤ 4 ∧ Q.getD j 0 ≤ 1) ∧ Hid (Pl w wr g (.slice A l.length c) (.slice B k.length d) X n L Y m Q)) (fun cn _ => 1000 - (intOf cn).toNat)
            case atStart => exact ⟨some ⟨qa, 0, none⟩, n, L, Y, m, Q, cn2, rfl, ⟨by omega, by omega, hqq0⟩, HO2, HOK, HLL, HQL, HL4, HPL, HP⟩
            case round =>
              clear HO2 HOK HLL HQL HPL HP HL4 hqq1 hqq0
              obtain ⟨X, n, L, Y, m, Q, cn3, rfl, ⟨hd3, hd4, hd5⟩, HO1, HOK, HLL, HQL, HL4, HPL, HP⟩ := hrel
              have hix : kk < Q.length := by have := HQL.out; omega
              have hiy : (kk : Int) < (Q.length : Int) := by omega
              obtain ⟨qa, eX, hql, hqa, cX, fX⟩ := HP.out.row2.int hix
              subst eX
              have hgd := M.getD_at Q kk hix
              obtain ⟨b0, b1, b2, b3, bg⟩ := HP.out.box.c2
              have hgx : Q.getD kk 0 ≤ 30 := by omega
              have hcn3 : cn3 ≤ 800 := by omega
              obtain ⟨v2, hv⟩ : ∃ v, v = Q[kk] := ⟨_, rfl⟩
              rw [← hv] at cX hgd
              clear hv
              by_cases h2 : 2 ≤ v2
              · skip
                have HC := Lib.hid (fun w h h2 => BoardO.i_changed X n L (some ⟨qa, 0, none⟩) m Q false kk (-2) 1 w (by have := HLL.out; omega) HOK.out (by omega) (by omega) h h2)
                by_cases hkm : kk + 1 = l.length
                · skip
                  rw [M.changed_c2n (n := cn3) (fun h => by have := HLL.out; omega)] at HC
                  have HNO := Lib.hid (show RR = (([], []), 0, false) by have h := HF1.out; rw [show l.length - (kk + 1) = 0 by omega] at h; rw [HRR.out, ← h]; show M.plEnd O1 = _; rw [← HO1.out]; exact M.plEnd_last l.length (L, Q, cn3) kk hkm hix (by simp only; omega))
                  clear HPL HO1 HF1 HRR
                  go_wp2_with fail
                  refine (HC.out _ HP.out.row1.rd HP.out.row2.rd).mono ?_
                  rintro e w3 ⟨X3, n3, Y3, m3, rfl, q3, v3, ap3, b3⟩
                  obtain ⟨z0, z1, z2, z3, z4⟩ := (HP.out.res.below b3).c2
                  have bbz := HP.out.bel.trans (b3.mono HP.out.bel.size)
                  clear q3 v3 ap3
                  go_wp2_with fail
                  rw [HNO.out]
                  exact bodyPost_ret (v := .tuple #[.agg #[.slice none 0 0, .slice none 0 0], .int .i64 0, .bool false]) (by simp [results, Try.results42, go_sem, *]) rfl ⟨none, 0, none, 0, rfl, K.Row.nil _ _ _ _, K.Row.nil _ _ _ _, fun g h => by simp [K.blk] at h, by (repeat (first | exact Below.refl _ _ | assumption | (refine K.below_drewN ?_ _) | (refine Below.drew ?_) | (refine Below.alloc ?_ (by first | (simp; done) | (simp; omega) | omega) _) | (refine Below.setCell ?_ (by first | (simp; done) | (simp; omega) | omega) _)))⟩
                · skip
                  have hk2 : kk + 1 < L.length := by have := HLL.out; omega
                  cases hb : M.plOk (M.c2 (L, Q, cn3) kk) with
                  | false =>
                    rw [M.changed_c2n (n := cn3) (fun h => by rw [hb] at h; exact absurd h.2 (by simp))] at HC
                    have HNO := Lib.hid (show RR = (([], []), 0, false) by rw [HRR.out, ← HF1.out, ← HO1.out, M.pl2o_bad l.length (L, Q, cn3) kk hkm HOK.out hk2 (by simp only; omega) hb, M.plFrom_none]; rfl)
                    clear hb HPL HO1 HF1 HRR
                    go_wp2_with fail
                    refine (HC.out _ HP.out.row1.rd HP.out.row2.rd).mono ?_
                    rintro e w3 ⟨X3, n3, Y3, m3, rfl, q3, v3, ap3, b3⟩
                    obtain ⟨z0, z1, z2, z3, z4⟩ := (HP.out.res.below b3).c2
                    have bbz := HP.out.bel.trans (b3.mono HP.out.bel.size)
                    clear q3 v3 ap3
                    go_wp2_with fail
                    rw [HNO.out]
                    exact bodyPost_ret (v := .tuple #[.agg #[.slice none 0 0, .slice none 0 0], .int .i64 0, .bool false]) (by simp [results, Try.results42, go_sem, *]) rfl ⟨none, 0, none, 0, rfl, K.Row.nil _ _ _ _, K.Row.nil _ _ _ _, fun g h => by simp [K.blk] at h, by (repeat (first | exact Below.refl _ _ | assumption | (refine K.below_drewN ?_ _) | (refine Below.drew ?_) | (refine Below.alloc ?_ (by first | (simp; done) | (simp; omega) | omega) _) | (refine Below.setCell ?_ (by first | (simp; done) | (simp; omega) | omega) _)))⟩
                  | true =>
                    rw [M.changed_c2 hk2 hb] at HC
                    have HO2 := Lib.hid (show M.pl2o l.length (M.c2 (L, Q, cn3) kk) kk = O1 by rw [← HO1.out]; exact M.pl2o_c2 l.length (L, Q, cn3) kk hkm hk2 hix (by simp only; omega))
                    have HOK2 := Lib.hid hb
                    have hs1 : (M.c2 (L, Q, cn3) kk).1 = L.set (kk + 1) (L.getD (kk + 1) 0 + 1) := rfl
                    have hs2 : (M.c2 (L, Q, cn3) kk).2.1 = Q.set kk (Q.getD kk 0 + -2) := rfl
                    have HL2 := Lib.hid (show (M.c2 (L, Q, cn3) kk).1.length = l.length by rw [hs1, List.length_set]; exact HLL.out)
                    have HQ2 := Lib.hid (show (M.c2 (L, Q, cn3) kk).2.1.length = l.length by rw [hs2, List.length_set]; exact HQL.out)
                    have HPL2 := Lib.hid (show ∀ j, j < kk → (M.c2 (L, Q, cn3) kk).1.getD j 0 ≤ 4 ∧ (M.c2 (L, Q, cn3) kk).2.1.getD j 0 ≤ 1 by intro j hj; rw [hs1, hs2, M.getD_set_ne _ _ _ (by omega), M.getD_set_ne _ _ _ (by omega)]; exact HPL.out j hj)
                    have HL42 := Lib.hid (show (M.c2 (L, Q, cn3) kk).1.getD kk 0 ≤ 4 by rw [hs1, M.getD_set_ne _ _ _ (by omega)]; exact HL4.out)
                    have hg2 : (M.c2 (L, Q, cn3) kk).2.1.getD kk 0 = v2 + -2 := by rw [hs2, M.getD_set_same _ _ hix, hgd]
                    have HN2 : Hid ((M.c2 (L, Q, cn3) kk).2.2 = cn3 + 1) := Lib.hid rfl
                    clear hb HPL HO1 hs1 hs2
                    generalize M.c2 (L, Q, cn3) kk = S at *
                    obtain ⟨L2, Q2, n2⟩ := S
                    dsimp only at *
                    have hn2 := HN2.out
                    subst hn2
                    have b4 := b3
                    clear b3
                    go_wp2_with fail
                    refine (HC.out _ HP.out.row1.rd HP.out.row2.rd).mono ?_
                    rintro e w3 ⟨X3, n3, Y3, m3, rfl, q3, v3, ap3, b3⟩
                    have P3 := Lib.hid ((HP.out.below b3).alloc (.cells #[.slice X3 ((L2, Q2, cn3 + 1)).1.length n3, .slice Y3 ((L2, Q2, cn3 + 1)).2.1.length m3] 27))
                    have r3 := Lib.hid (q3.alloc (.cells #[.slice X3 ((L2, Q2, cn3 + 1)).1.length n3, .slice Y3 ((L2, Q2, cn3 + 1)).2.1.length m3] 27))
                    have r4 := Lib.hid (v3.alloc (.cells #[.slice X3 ((L2, Q2, cn3 + 1)).1.length n3, .slice Y3 ((L2, Q2, cn3 + 1)).2.1.length m3] 27))
                    have x3 := Lib.hid (K.Box.new w3 #[.slice X3 ((L2, Q2, cn3 + 1)).1.length n3, .slice Y3 ((L2, Q2, cn3 + 1)).2.1.length m3] 27)
                    clear q3 v3 b3
                    go_upto_region 18 with fail
                    obtain ⟨W, hW⟩ : ∃ X, X = w3.alloc (.cells #[.slice X3 ((L2, Q2, cn3 + 1)).1.length n3, .slice Y3 ((L2, Q2, cn3 + 1)).2.1.length m3] 27) := ⟨_, rfl⟩
                    rw [← hW] at P3 r3 r4 x3 ⊢
                    clear hW b0 b1 b2 b4 bg cX fX
                    obtain ⟨b0, b1, b2, b3, bg⟩ := P3.out.box.c2
                    obtain ⟨x0, x1⟩ := x3.out.c2
                    have xg := x3.out.1
                    have P4 := Lib.hid (P3.out.put (by have := HP.out.box.1.1; exact this) r3.out r4.out ap3)
                    go_wp2_with fail
                    go_roundw
                    case rel => exact ⟨X3, n3, L2, Y3, m3, Q2, cn3 + 1, by go_num, ⟨by omega, by omega, by omega⟩, HO2, HOK2, HL2, HQ2, HL42, HPL2, P4⟩
                    case measure => simp [intOf]; omega
              · skip
                have HO2 := Lib.hid (show some (L, Q, cn3) = O1 by rw [← HO1.out]; exact (M.pl2o_id l.length (L, Q, cn3) kk HOK.out (fun h => by have := HLL.out; simp only; omega) hix (by simp only; omega) (by simp only; omega)).symm)
                have hq1 : Q.getD kk 0 ≤ 1 := by omega
                have HQ1 := Lib.hid hq1
                clear hq1 hgd
                go_wp2_with fail
                go_roundw
                case rel => exact ⟨kk + 1, X, n, L, some ⟨qa, 0, none⟩, m, Q, cn3, by omega, by go_num, rfl, ⟨by omega, by omega⟩, Lib.hid (by rw [HO2.out]; exact HF1.out), HOK, HLL, HQL, Lib.hid (fun j hj => by cases Nat.lt_or_ge j kk with | inl h => exact HPL.out j h | inr h => (have e : j = kk := (by omega); rw [e]; exact ⟨HL4.out, HQ1.out⟩)), HP⟩
                case measure => simp [intOf]; omega
      · obtain rfl : kk = l.length := by omega
        have HE := Lib.hid (show RR = ((L, Q), cnt, true) by have h := HF.out; rw [Nat.sub_self] at h; rw [HRR.out, ← h]; exact M.plEnd_plain HOK.out (fun j hj => HPL.out j (by have := HLL.out; simp only at hj; omega)))
        obtain ⟨b0, b1, b2, b3, bg⟩ := HP.out.box.c2
        obtain ⟨z0, z1, z2, z3, z4⟩ := HP.out.res.c2
        have rx := Lib.hid (HP.out.row1.more (lo' := w.heap.size) (by omega))
        have bbz := HP.out.bel
        clear HF HRR HOK HPL
        go_wp2_with fail
        rw [HE.out]
        exact bodyPost_ret (v := .tuple #[.agg #[.slice X L.length n, .slice Y Q.length m], .int .i64 cnt, .bool true]) (by simp [results, Try.results42, go_sem, *]) rfl ⟨X, n, Y, m, rfl, ((HP.out.row1.setOther (by simp only; omega) _).setOther (by simp only; omega) _).more (by omega), ((HP.out.row2.setOther (by simp only; omega) _).setOther (by simp only; omega) _).more (by omega), HP.out.ap, by (repeat (first | exact Below.refl _ _ | assumption | (refine K.below_drewN ?_ _) | (refine Below.drew ?_) | (refine Below.alloc ?_ (by first | (simp; done) | (simp; omega) | omega) _) | (refine Below.setCell ?_ (by first | (simp; done) | (simp; omega) | omega) _)))⟩
end Go.Proofs.Ytmgegacgjppdbaa.BoardP
