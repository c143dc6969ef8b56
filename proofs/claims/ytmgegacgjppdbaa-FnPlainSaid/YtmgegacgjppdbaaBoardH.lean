/-
  Walks: the law file's helpers on boards.
-/
import Derived.Test.YtmgegacgjppdbaaSliceInt
set_option linter.unusedVariables false
namespace Go.Proofs.Ytmgegacgjppdbaa.BoardH
open Go.RowKit
/-- a call that returns a board of its own, over two arrays. -/
def RetBoard (w : World) (l k : List Int) (e : Ending) (w' : World) : Prop :=
  ∃ A c B d, e = .returned (.agg #[.slice A l.length c, .slice B k.length d]) ∧ K.Row w' w.heap.size 3 1 A l.length c (l.map (Value.int .i64)) ∧ K.Row w' w.heap.size 3 1 B k.length d (k.map (Value.int .i64)) ∧ (∀ g, K.blk A = some g → K.blk B ≠ some g) ∧ Below w.heap.size w w'
set_option maxHeartbeats 400000 in
theorem copy (A : Option Addr) (c : Nat) (l : List Int) (B : Option Addr) (d : Nat) (k : List Int) (w : World) (hl : l.length ≤ 1048576) (hk : k.length ≤ 1048576) (ha : K.Rd w 1 A l.length (l.map (Value.int .i64))) (hb : K.Rd w 1 B k.length (k.map (Value.int .i64))) :
    Calls Try.prog 18 #[.agg #[.slice A l.length c, .slice B k.length d]] w (RetBoard w l k) := by
  have ha3 := fun o1 o2 o3 => ((ha.alloc o1).alloc o2).alloc o3
  have hb3 := fun o1 o2 o3 => ((hb.alloc o1).alloc o2).alloc o3
  go_enter Try.func18, Try.ntmps18
  go_wp2_with fail
  refine (SlInt.copy A c l _ hl (ha3 _ _ _)).mono ?_
  rintro e w1 ⟨A1, c1, rfl, r1, b1⟩
  obtain ⟨hc, hf⟩ := K.bcell b1
  have hb0 : Below w.heap.size w w1 := by
    have h := b1.mono (B' := w.heap.size) (by simp; omega)
    exact (((((Below.refl w.heap.size w).alloc (Nat.le_refl _) _).alloc (by simp) _).alloc (by simp; omega) _)).trans h
  have hk1 := (hb3 _ _ _).below b1
  have r1' := r1.more (lo' := w.heap.size + 1 + 1 + 1) (by simp)
  have hz : w.heap.size + 1 + 1 + 1 ≤ w1.heap.size := by have := b1.size; simpa using this
  have hB : ∀ g, K.blk B = some g → g < w.heap.size ∨ k.length = 0 := by
    intro g hg
    rcases Nat.eq_zero_or_pos k.length with h | h
    · exact .inr h
    · obtain ⟨g', o, rfl, h', _⟩ := hb.2 h
      left; simp [K.blk] at hg; omega
  have hk2 : ∀ u, K.Rd (w1.setCell ⟨w.heap.size + 1 + 1, 0, none⟩ u) 1 B k.length (k.map (Value.int .i64)) := by
    intro u
    rcases Nat.eq_zero_or_pos k.length with h | h
    · have : k = [] := by simpa using h
      subst this
      exact K.Rd.nil _ _ _
    · exact hk1.setOther (fun g hg e => by rcases hB g hg with h' | h' <;> simp at e <;> omega) u
  clear ha3 hb3 hk1 r1
  go_wp2_with fail
  refine (SlInt.copy B d k _ hk (hk2 _)).mono ?_
  rintro e w2 ⟨B2, d2, rfl, r2, b2⟩
  have hb2 : Below w.heap.size w w2 := (hb0.setCell (p := ⟨w.heap.size + 1 + 1, 0, none⟩) (by simp; omega) (.slice A1 l.length c1)).trans (b2.mono (by simp; omega))
  have q1 := (r1'.setOther (p := ⟨w.heap.size + 1 + 1, 0, none⟩) (by simp) (.slice A1 l.length c1)).below b2
  have hap := K.apart (r1'.setOther (p := ⟨w.heap.size + 1 + 1, 0, none⟩) (by simp) (.slice A1 l.length c1)) r2 (Nat.le_refl _) (Nat.le_refl _)
  have q2 := r2.more (lo' := w.heap.size + 1 + 1 + 1) (by simpa using hz)
  obtain ⟨hc2, hf2⟩ := K.bcell b2
  have y0 : w2.cell? ⟨w.heap.size + 1 + 1, 0, none⟩ = some (.slice A1 l.length c1) := by
    rw [hc2 _ _ (by simp; omega), World.cell?_setCell_same' _ _ _ (by rw [hc _ _ (by simp)]; simp [go_sem])]
  have y1 : w2.cell? ⟨w.heap.size + 1 + 1, 1, none⟩ = some (.slice none 0 0) := by
    rw [hc2 _ _ (by simp; omega), World.cell?_setCell_other _ _ _ _ (by simp), hc _ _ (by simp)]; simp [go_sem]
  have z0 : w2.cell? ⟨w.heap.size + 1, 0, none⟩ = some (.slice none 0 0) := by
    rw [hc2 _ _ (by simp; omega), World.cell?_setCell_other _ _ _ _ (by simp), hc _ _ (by simp)]; simp [go_sem]
  have z1 : w2.cell? ⟨w.heap.size + 1, 1, none⟩ = some (.slice none 0 0) := by
    rw [hc2 _ _ (by simp; omega), World.cell?_setCell_other _ _ _ _ (by simp), hc _ _ (by simp)]; simp [go_sem]
  have e0 : w2.frozen? ⟨w.heap.size + 1 + 1, 0, none⟩ = false := by rw [hf2 _ _ (by simp; omega), World.frozen?_setCell, hf _ _ (by simp)]; simp [go_sem]
  have e1 : w2.frozen? ⟨w.heap.size + 1 + 1, 1, none⟩ = false := by rw [hf2 _ _ (by simp; omega), World.frozen?_setCell, hf _ _ (by simp)]; simp [go_sem]
  have e2 : w2.frozen? ⟨w.heap.size + 1, 0, none⟩ = false := by rw [hf2 _ _ (by simp; omega), World.frozen?_setCell, hf _ _ (by simp)]; simp [go_sem]
  have e3 : w2.frozen? ⟨w.heap.size + 1, 1, none⟩ = false := by rw [hf2 _ _ (by simp; omega), World.frozen?_setCell, hf _ _ (by simp)]; simp [go_sem]
  clear b1 b2 r2 hk2 hB hc hf hc2 hf2
  go_wp2_with fail
  refine bodyPost_ret (v := .agg #[.slice A1 l.length c1, .slice B2 k.length d2]) (by simp [results, Try.results18, go_sem, z0, z1]) rfl ⟨A1, c1, B2, d2, rfl, ?_, ?_, hap, ?_⟩
  · exact (((q1.setOther (by simp) _).setOther (by simp) _).setOther (by simp) _).more (by omega)
  · exact (((q2.setOther (by simp) _).setOther (by simp) _).setOther (by simp) _).more (by omega)
  · (repeat (first | exact Below.refl _ _ | assumption | (refine K.below_drewN ?_ _) | (refine Below.drew ?_) | (refine Below.alloc ?_ (by first | (simp; done) | (simp; omega) | omega) _) | (refine Below.setCell ?_ (by first | (simp; done) | (simp; omega) | omega) _)))
theorem sz (A : Option Addr) (c n : Nat) (B : Option Addr) (d m : Nat) (left : Int) (w : World) (hn : n ≤ 9223372036854775807) (hm : m ≤ 9223372036854775807) (h0 : 0 ≤ left) (h1 : left ≤ 1048576) :
    Calls Try.prog 16 #[.agg #[.slice A n c, .slice B m d], .int .i64 left] w fun e w' => (∃ r, e = .returned (.int .i64 r) ∧ ((r < 0 ∧ left < n + m) ∨ (0 ≤ r ∧ r = left - n - m))) ∧ Below w.heap.size w w' := by
  go_enter Try.func16, Try.ntmps16
  go_wp2_with fail
  refine (SlInt.sz A c n left _ hn h0 h1).mono ?_
  rintro e w1 ⟨⟨r, rfl, hr⟩, rfl⟩
  by_cases hneg : r < 0
  · go_wp2
    go_ret
    exact ⟨⟨_, rfl, .inl ⟨by omega, by omega⟩⟩, by (repeat (first | exact Below.refl _ _ | assumption | (refine K.below_drewN ?_ _) | (refine Below.drew ?_) | (refine Below.alloc ?_ (by first | (simp; done) | (simp; omega) | omega) _) | (refine Below.setCell ?_ (by first | (simp; done) | (simp; omega) | omega) _)))⟩
  · go_wp2_with fail
    refine (SlInt.sz B d m r _ hm (by omega) (by omega)).mono ?_
    rintro e w2 ⟨⟨r2, rfl, hr2⟩, rfl⟩
    by_cases hneg2 : r2 < 0
    · go_wp2
      go_ret
      exact ⟨⟨_, rfl, .inl ⟨by omega, by omega⟩⟩, by (repeat (first | exact Below.refl _ _ | assumption | (refine K.below_drewN ?_ _) | (refine Below.drew ?_) | (refine Below.alloc ?_ (by first | (simp; done) | (simp; omega) | omega) _) | (refine Below.setCell ?_ (by first | (simp; done) | (simp; omega) | omega) _)))⟩
    · go_wp2
      go_ret
      exact ⟨⟨_, rfl, .inr ⟨by omega, by omega⟩⟩, by (repeat (first | exact Below.refl _ _ | assumption | (refine K.below_drewN ?_ _) | (refine Below.drew ?_) | (refine Below.alloc ?_ (by first | (simp; done) | (simp; omega) | omega) _) | (refine Below.setCell ?_ (by first | (simp; done) | (simp; omega) | omega) _)))⟩
set_option maxHeartbeats 400000 in
theorem eq_yes (A B : Option Addr) (c d : Nat) (l : List Int) (A' B' : Option Addr) (c' d' : Nat) (k : List Int) (w : World) (hl : l.length ≤ 1048576) (hk : k.length ≤ 1048576)
    (ha : K.Rd w 1 A l.length (l.map (Value.int .i64))) (hb : K.Rd w 1 B l.length (l.map (Value.int .i64))) (ha' : K.Rd w 1 A' k.length (k.map (Value.int .i64))) (hb' : K.Rd w 1 B' k.length (k.map (Value.int .i64))) :
    Calls Try.prog 20 #[.agg #[.slice A l.length c, .slice A' k.length c'], .agg #[.slice B l.length d, .slice B' k.length d']] w fun e w' => e = .returned (.bool true) ∧ Below w.heap.size w w' := by
  go_enter Try.func20, Try.ntmps20
  go_wp2_with fail
  refine (SlInt.eq_yes A B c d l _ hl ((ha.alloc _).alloc _) ((hb.alloc _).alloc _)).mono ?_
  rintro e w1 ⟨rfl, b1⟩
  obtain ⟨hc, hf⟩ := K.bcell b1
  have x0 := hc w.heap.size 1 (by simp; omega)
  have x1 := hc (w.heap.size + 1) 1 (by simp)
  simp [go_sem] at x0 x1
  have hb0 : Below w.heap.size w w1 := by
    have h := b1.mono (B' := w.heap.size) (by simp; omega)
    exact ((((Below.refl w.heap.size w).alloc (Nat.le_refl _) _).alloc (by simp) _)).trans h
  have q1 := ((ha'.alloc _).alloc _).below b1
  have q2 := ((hb'.alloc _).alloc _).below b1
  clear b1 hc hf
  go_wp2_with fail
  refine (SlInt.eq_yes A' B' c' d' k _ hk q1 q2).mono ?_
  rintro e w2 ⟨rfl, b2⟩
  have hb2 := hb0.trans (b2.mono hb0.size)
  go_wp2
  go_ret
  exact ⟨rfl, hb2⟩
set_option maxHeartbeats 400000 in
theorem mark (A : Option Addr) (n c : Nat) (B : Option Addr) (m d lo k0 : Nat) (xs ys : List Value) (w : World) (hn : n ≤ 1048576) (hm : m ≤ 1048576) (hk0 : 1 ≤ k0) (hk1 : k0 ≤ 1000000000000) (ha : K.Row w lo 3 1 A n c xs) (hb : K.Row w lo 3 1 B m d ys) (hap : ∀ g, K.blk A = some g → K.blk B ≠ some g) :
    Calls Try.prog 23 #[.agg #[.slice A n c, .slice B m d], .int .i64 k0] w fun e w' => e = .returned (.int .i64 ((k0 : Int) + n + m)) ∧ K.Row w' lo 3 1 A n c ((M.markInts k0 n).map (Value.int .i64)) ∧ K.Row w' lo 3 1 B m d ((M.markInts (k0 + n) m).map (Value.int .i64)) ∧ ∃ wm, w.grownBy wm (K.blk A) ∧ wm.grownBy w' (K.blk B) := by
  go_enter Try.func23, Try.ntmps23
  have x0 : K.Box (w.alloc (.cells #[.slice A n c, .slice B m d] 27)) w.heap.size [.slice A n c, .slice B m d] := K.Box.new _ _ _
  have nA : K.blk A ≠ some w.heap.size := fun h => Nat.lt_irrefl _ (ha.lt _ h).2
  go_wp2_with fail
  refine (SlInt.mark A n c lo k0 _ _ hn hk0 (by omega) (ha.alloc _)).mono ?_
  rintro e w1 ⟨rfl, r1, g1⟩
  have hg := K.grown_trans (K.grown_below ((Below.refl w.heap.size w).alloc (Nat.le_refl _) (.cells #[.slice A n c, .slice B m d] 27)) (K.blk A)) g1
  have q1 := (hb.alloc (.cells #[.slice A n c, .slice B m d] 27)).kept g1 (fun g h1 h2 => hap g h2 h1)
  have x1 := x0.kept g1 nA
  obtain ⟨p0, p1⟩ := x1.c2
  have pg := x1.1
  have HM := Lib.hid (fun w h => SlInt.mark B m d lo (k0 + n) ys w hm (by omega) (by omega) h)
  rw [show (((k0 + n : Nat) : Int)) = (k0 : Int) + n by omega] at HM
  clear g1
  go_wp2_with fail
  refine (HM.out _ q1).mono ?_
  rintro e w2 ⟨rfl, r2, g2⟩
  have r1' := r1.kept g2 hap
  clear p0 p1 pg
  go_wp2
  go_ret
  exact ⟨rfl, r1', r2, w1, hg, g2⟩
set_option maxHeartbeats 400000 in
theorem held (A : Option Addr) (n c : Nat) (B : Option Addr) (m d k0 : Nat) (w : World) (hn : n ≤ 1048576) (hm : m ≤ 1048576) (hk0 : 1 ≤ k0) (hk1 : k0 ≤ 1000000000000) (ha : K.Rd w 1 A n ((M.markInts k0 n).map (Value.int .i64))) (hb : K.Rd w 1 B m ((M.markInts (k0 + n) m).map (Value.int .i64))) :
    Calls Try.prog 24 #[.agg #[.slice A n c, .slice B m d], .int .i64 k0] w fun e w' => e = .returned (.int .i64 ((k0 : Int) + n + m)) ∧ Below w.heap.size w w' := by
  go_enter Try.func24, Try.ntmps24
  have x0 : K.Box (w.alloc (.cells #[.slice A n c, .slice B m d] 27)) w.heap.size [.slice A n c, .slice B m d] := K.Box.new _ _ _
  have b0 : Below w.heap.size w (w.alloc (.cells #[.slice A n c, .slice B m d] 27)) := (Below.refl _ _).alloc (Nat.le_refl _) _
  go_wp2_with fail
  refine (SlInt.held A n c k0 _ hn hk0 (by omega) (ha.alloc _)).mono ?_
  rintro e w1 ⟨rfl, b1⟩
  have q1 := (hb.alloc (.cells #[.slice A n c, .slice B m d] 27)).below b1
  have x1 := x0.below b1
  obtain ⟨p0, p1⟩ := x1.c2
  have pg := x1.1
  have hb1 := b0.trans (b1.mono b0.size)
  have HM := Lib.hid (fun w h => SlInt.held B m d (k0 + n) w hm (by omega) (by omega) h)
  rw [show (((k0 + n : Nat) : Int)) = (k0 : Int) + n by omega] at HM
  clear b1 x0
  go_wp2_with fail
  refine (HM.out _ q1).mono ?_
  rintro e w2 ⟨rfl, b2⟩
  have hb2 := hb1.trans (b2.mono hb1.size)
  clear p0 p1 pg b2
  go_wp2
  go_ret
  exact ⟨rfl, hb2⟩
end Go.Proofs.Ytmgegacgjppdbaa.BoardH
