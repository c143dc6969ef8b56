/-
  Walks: counters moved in the reference (printed by gen_bops.py).
-/
import Derived.Test.YtmgegacgjppdbaaBoardO
import Derived.Deep.DeepCutAuto
import Derived.Deep.RegionHeld3
import Derived.BigRegion
set_option linter.unusedVariables false
namespace Go.Proofs.Ytmgegacgjppdbaa.BoardO
open Go.RowKit
theorem s_place (A : Option Addr) (c : Nat) (l : List Int) (B : Option Addr) (d : Nat) (k : List Int) (line : Bool) (a : Int) (w : World) (hl : l.length ≤ 1048576) (hk : k.length ≤ 1048576) (ha : K.Rd w 1 A l.length (l.map (Value.int .i64))) (hb : K.Rd w 1 B k.length (k.map (Value.int .i64))) :
    Calls Try.prog 74 #[.agg #[.slice A l.length c, .slice B k.length d], .bool line, .int .i64 a] w fun e w' => e = .returned (.bool (M.bOk l k && M.inR a 0 ((l.length : Int) - 1 - (if line = true then 0 else 1)))) ∧ Below w.heap.size w w' := by
  obtain ⟨o, ho⟩ : ∃ o : Obj, o = .cells #[.slice A l.length c, .slice B k.length d] 27 := ⟨_, rfl⟩
  have r := ha.alloc o
  have t := hb.alloc o
  have x : K.Box (w.alloc o) w.heap.size [.slice A l.length c, .slice B k.length d] := by rw [ho]; exact K.Box.new _ _ _
  have bb : Below w.heap.size w (w.alloc o) := by (repeat (first | exact Below.refl _ _ | assumption | (refine K.below_drewN ?_ _) | (refine Below.drew ?_) | (refine Below.alloc ?_ (by first | (simp; done) | (simp; omega) | omega) _) | (refine Below.setCell ?_ (by first | (simp; done) | (simp; omega) | omega) _)))
  subst ho
  have HS := Lib.hid (BoardF.s_good A c l B d k _ hl hk r t)
  have p0 := x.c2
  have pg := x.1
  cases line with
  | true =>
    have HR : Hid ((M.bOk l k && M.inR a 0 ((l.length : Int) - 1 - (if (true : Bool) = true then 0 else 1))) = (M.bOk l k && M.inR a 0 ((l.length : Int) - 1))) := Lib.hid (by simp)
    generalize (M.bOk l k && M.inR a 0 ((l.length : Int) - 1 - (if (true : Bool) = true then 0 else 1))) = R at HR ⊢
    generalize M.bOk l k = bo at HS HR
    cases bo with
    | false =>
      have HK := Lib.hid (show R = false by rw [HR.out]; rfl)
      clear HR
      go_enter Try.func74, Try.ntmps74
      go_wp2_with fail
      refine HS.out.mono ?_
      rintro e w1 ⟨rfl, b1⟩
      have bz := bb.trans (b1.mono bb.size)
      clear b1 bb
      go_wp2_with fail
      go_ret
      exact ⟨K.ret_bool HK.out.symm, bz⟩
    | true =>
      have HK := Lib.hid (show R = M.inR a 0 ((l.length : Int) - 1) by rw [HR.out]; rfl)
      clear HR
      go_enter Try.func74, Try.ntmps74
      go_wp2_with fail
      refine HS.out.mono ?_
      rintro e w1 ⟨rfl, b1⟩
      have bz := bb.trans (b1.mono bb.size)
      clear b1 bb
      go_wp2_with fail
      refine (Base.s_in _ _ _ _).mono ?_
      rintro e w2 ⟨rfl, rfl⟩
      go_wp2_with fail
      go_ret
      exact ⟨K.ret_bool HK.out.symm, bz⟩
  | false =>
    have HR : Hid ((M.bOk l k && M.inR a 0 ((l.length : Int) - 1 - (if (false : Bool) = true then 0 else 1))) = (M.bOk l k && M.inR a 0 ((l.length : Int) - 1 - 1))) := Lib.hid (by simp)
    generalize (M.bOk l k && M.inR a 0 ((l.length : Int) - 1 - (if (false : Bool) = true then 0 else 1))) = R at HR ⊢
    generalize M.bOk l k = bo at HS HR
    cases bo with
    | false =>
      have HK := Lib.hid (show R = false by rw [HR.out]; rfl)
      clear HR
      go_enter Try.func74, Try.ntmps74
      go_wp2_with fail
      refine HS.out.mono ?_
      rintro e w1 ⟨rfl, b1⟩
      have bz := bb.trans (b1.mono bb.size)
      clear b1 bb
      go_wp2_with fail
      go_ret
      exact ⟨K.ret_bool HK.out.symm, bz⟩
    | true =>
      have HK := Lib.hid (show R = M.inR a 0 ((l.length : Int) - 1 - 1) by rw [HR.out]; rfl)
      clear HR
      go_enter Try.func74, Try.ntmps74
      go_wp2_with fail
      refine HS.out.mono ?_
      rintro e w1 ⟨rfl, b1⟩
      have bz := bb.trans (b1.mono bb.size)
      clear b1 bb
      go_wp2_with fail
      refine (Base.s_in _ _ _ _).mono ?_
      rintro e w2 ⟨rfl, rfl⟩
      go_wp2_with fail
      go_ret
      exact ⟨K.ret_bool HK.out.symm, bz⟩
set_option maxRecDepth 100000 in
set_option maxHeartbeats 2000000 in
theorem s_move_line (A : Option Addr) (c : Nat) (l : List Int) (B : Option Addr) (d : Nat) (k : List Int) (j : Nat) (n : Int) (w : World) (hl : l.length ≤ 6) (hk6 : k.length ≤ 6) (hj : j < l.length) (hjk : j < k.length) (hlx : ∀ x ∈ l, -1000 ≤ x ∧ x ≤ 1000) (hkx : ∀ x ∈ k, -1000 ≤ x ∧ x ≤ 1000) (hn : -100 ≤ n ∧ n ≤ 100) (ha : K.Rd w 1 A l.length (l.map (Value.int .i64))) (hb : K.Rd w 1 B k.length (k.map (Value.int .i64))) :
    Calls Try.prog 75 #[.agg #[.slice A l.length c, .slice B k.length d], .bool true, .int .i64 j, .int .i64 n] w (BoardH.RetBoard w (l.set j (l[j] - 5 * n)) (k.set j (k[j] + n))) := by
  obtain ⟨o, ho⟩ : ∃ o : Obj, o = .cells #[.slice A l.length c, .slice B k.length d] 27 := ⟨_, rfl⟩
  obtain ⟨o2, ho2⟩ : ∃ o : Obj, o = .cells #[.slice none 0 0, .slice none 0 0] 27 := ⟨_, rfl⟩
  have r := (ha.alloc o).alloc o2
  have t := (hb.alloc o).alloc o2
  have x : K.Box ((w.alloc o).alloc o2) w.heap.size [.slice A l.length c, .slice B k.length d] := by rw [ho]; exact (K.Box.new w #[.slice A l.length c, .slice B k.length d] 27).alloc _
  have z : K.Own ((w.alloc o).alloc o2) (w.heap.size + 1) [.slice none 0 0, .slice none 0 0] := by have h := K.Own.new (w.alloc o) #[.slice none 0 0, .slice none 0 0] 27; rw [World.size_alloc] at h; rw [ho2]; exact h
  have bb : Below w.heap.size w ((w.alloc o).alloc o2) := by (repeat (first | exact Below.refl _ _ | assumption | (refine K.below_drewN ?_ _) | (refine Below.drew ?_) | (refine Below.alloc ?_ (by first | (simp; done) | (simp; omega) | omega) _) | (refine Below.setCell ?_ (by first | (simp; done) | (simp; omega) | omega) _)))
  subst ho ho2
  obtain ⟨n1, n2⟩ := hn
  have hj1 : (0 : Int) ≤ (j : Int) := by omega
  have hj2 : (j : Int) < (l.length : Int) := by omega
  have hj3 : (j : Int) < (k.length : Int) := by omega
  obtain ⟨L, hL⟩ : ∃ L, L = l.set j (l[j] - 5 * n) := ⟨_, rfl⟩
  obtain ⟨Q, hQ⟩ : ∃ Q, Q = k.set j (k[j] + n) := ⟨_, rfl⟩
  rw [← hL, ← hQ]
  have HLn := Lib.hid (show L.length = l.length by rw [hL, List.length_set])
  have HQn := Lib.hid (show Q.length = k.length by rw [hQ, List.length_set])
  have HL := Lib.hid hL
  have HQ := Lib.hid hQ
  clear hL hQ
  have hinx : j < l.length := by omega
  obtain ⟨vx1, vx2⟩ := hlx l[j] (List.getElem_mem _)
  have hiny : j < k.length := by omega
  obtain ⟨vy1, vy2⟩ := hkx k[j] (List.getElem_mem _)
  have HO := Lib.hid (s_own A c l B d k _ (by omega) (by omega) r t)
  clear hlx hkx ha hb
  go_enter Try.func75, Try.ntmps75
  have p0 := x.c2
  have pg := x.1
  go_wp2_with fail
  refine HO.out.mono ?_
  rintro e w1 ⟨X, c1, Y, c2, rfl, row, row2, ap, b1⟩
  have bz := bb.trans (b1.mono bb.size)
  have zz := z.below b1
  have hz9 := z.1.1
  have hz8 := b1.size
  have rx := (row.more (lo' := w.heap.size) (by simp <;> omega)).alloc (.cells #[.slice X l.length c1, .slice Y k.length c2] 27)
  have ry := (row2.more (lo' := w.heap.size) (by simp <;> omega)).alloc (.cells #[.slice X l.length c1, .slice Y k.length c2] 27)
  have own := K.Own.new w1 #[.slice X l.length c1, .slice Y k.length c2] 27
  have nX : K.blk X ≠ some w1.heap.size := fun h => Nat.lt_irrefl _ (row.lt _ h).2
  have nY : K.blk Y ≠ some w1.heap.size := fun h => Nat.lt_irrefl _ (row2.lt _ h).2
  have lX := row.lt
  have lY := row2.lt
  replace zz := zz.alloc (.cells #[.slice X l.length c1, .slice Y k.length c2] 27)
  replace bz := bz.alloc bz.size (.cells #[.slice X l.length c1, .slice Y k.length c2] 27)
  clear row row2 b1 p0 pg x z bb r t HO
  go_wp2_with fail
  obtain ⟨W, hW⟩ : ∃ W, W = w1.alloc (.cells #[.slice X l.length c1, .slice Y k.length c2] 27) := ⟨_, rfl⟩
  rw [← hW] at rx ry own zz bz ⊢
  have hg1 : w.heap.size + 1 < w1.heap.size := by simp at hz8; omega
  simp at lX lY
  clear hW hz8
  obtain ⟨gx, rfl, gx1, gx2, hcx, hfx⟩ := rx.int (k := j) hinx
  obtain ⟨gy, rfl, gy1, gy2, hcy, hfy⟩ := ry.int (k := j) hiny
  have n1a : ¬ gx = gy := fun e => ap gx rfl (by rw [e]; rfl)
  have n1b : ¬ gy = gx := fun e => n1a e.symm
  have n2a : ¬ gx = w1.heap.size := fun e => nX (by rw [← e]; rfl)
  have n2b : ¬ gy = w1.heap.size := fun e => nY (by rw [← e]; rfl)
  have mx := (lX gx rfl).1
  have my := (lY gy rfl).1
  have HAP := Lib.hid ap
  clear ap nX nY lX lY gx1 gy1
  obtain ⟨w11, w12, w13, w14, w15⟩ := own.c2
  have sa : IntKind.i64.wrap (5 * n) = 5 * n := IntWalk.i64_in _ (by omega)
  have sb : IntKind.i64.wrap (l[j] - 5 * n) = l[j] - 5 * n := IntWalk.i64_in _ (by omega)
  go_region
  all_goals (try clear sa sb)
  go_wp2_with fail
  obtain ⟨W2, hW2⟩ : ∃ X, X = (W.setCell ⟨gx, j, none⟩ (.int .i64 (l[j] - 5 * n))).drew := ⟨_, rfl⟩
  have rxn : K.Row W2 w.heap.size 3 1 (some ⟨gx, 0, none⟩) l.length c1 (L.map (Value.int .i64)) := by rw [hW2, HL.out]; exact (rx.setInt (j) _).drew
  replace ry := (ry.setNe (p := ⟨gx, j, none⟩) (fun q hq => by simp [K.blk] at hq; subst hq; exact n1a) (.int .i64 (l[j] - 5 * n))).drew
  rw [← hW2] at ry
  replace own := (own.setOther (p := ⟨gx, j, none⟩) n2a (.int .i64 (l[j] - 5 * n))).drew
  replace zz := (zz.setOther (p := ⟨gx, j, none⟩) (by simp; omega) (.int .i64 (l[j] - 5 * n))).drew
  replace bz := (bz.setCell (p := ⟨gx, j, none⟩) (by simp; omega) (.int .i64 (l[j] - 5 * n))).drew
  rw [← hW2] at own zz bz ⊢
  clear hW2 rx w11 w12 w13 w14 w15 hcx hfx hcy hfy
  have rx := rxn
  clear rxn
  obtain ⟨gy2, hge, _, _, hcy, hfy⟩ := ry.int (k := j) hiny
  injection hge with hge
  injection hge with hge
  subst hge
  skip
  have hfx := trivial
  have hcx := trivial
  skip
  skip
  obtain ⟨w11, w12, w13, w14, w15⟩ := own.c2
  have sb : IntKind.i64.wrap (k[j] + n) = k[j] + n := IntWalk.i64_in _ (by omega)
  go_region
  all_goals (try clear sb)
  skip
  obtain ⟨W3, hW3⟩ : ∃ X, X = (W2.setCell ⟨gy, j, none⟩ (.int .i64 (k[j] + n))).drew := ⟨_, rfl⟩
  have ryn : K.Row W3 w.heap.size 3 1 (some ⟨gy, 0, none⟩) k.length c2 (Q.map (Value.int .i64)) := by rw [hW3, HQ.out]; exact (ry.setInt (j) _).drew
  replace rx := (rx.setNe (p := ⟨gy, j, none⟩) (fun q hq => by simp [K.blk] at hq; subst hq; exact n1b) (.int .i64 (k[j] + n))).drew
  rw [← hW3] at rx
  replace own := (own.setOther (p := ⟨gy, j, none⟩) n2b (.int .i64 (k[j] + n))).drew
  replace zz := (zz.setOther (p := ⟨gy, j, none⟩) (by simp; omega) (.int .i64 (k[j] + n))).drew
  replace bz := (bz.setCell (p := ⟨gy, j, none⟩) (by simp; omega) (.int .i64 (k[j] + n))).drew
  rw [← hW3] at own zz bz ⊢
  clear hW3 ry w11 w12 w13 w14 w15 hcx hfx hcy hfy
  have ry := ryn
  clear ryn
  obtain ⟨w11, w12, w13, w14, w15⟩ := own.c2
  obtain ⟨z1, z2, z3, z4, z5⟩ := zz.c2
  go_wp2_with fail
  exact bodyPost_ret (v := .agg #[.slice (some ⟨gx, 0, none⟩) L.length c1, .slice (some ⟨gy, 0, none⟩) Q.length c2]) (by rw [HLn.out, HQn.out]; simp [results, Try.results75, go_sem, *]) rfl ⟨some ⟨gx, 0, none⟩, c1, some ⟨gy, 0, none⟩, c2, rfl, by rw [HLn.out]; exact ((rx.setNe (fun q hq => by simp [K.blk] at hq; subst hq; simp; omega) _).setNe (fun q hq => by simp [K.blk] at hq; subst hq; simp; omega) _), by rw [HQn.out]; exact ((ry.setNe (fun q hq => by simp [K.blk] at hq; subst hq; simp; omega) _).setNe (fun q hq => by simp [K.blk] at hq; subst hq; simp; omega) _), HAP.out, by (repeat (first | exact Below.refl _ _ | assumption | (refine K.below_drewN ?_ _) | (refine Below.drew ?_) | (refine Below.alloc ?_ (by first | (simp; done) | (simp; omega) | omega) _) | (refine Below.setCell ?_ (by first | (simp; done) | (simp; omega) | omega) _)))⟩
  --@end
set_option maxRecDepth 100000 in
set_option maxHeartbeats 2000000 in
theorem s_move_space (A : Option Addr) (c : Nat) (l : List Int) (B : Option Addr) (d : Nat) (k : List Int) (j : Nat) (n : Int) (w : World) (hl : l.length ≤ 6) (hk6 : k.length ≤ 6) (hj : j + 1 < l.length) (hjk : j < k.length) (hlx : ∀ x ∈ l, -1000 ≤ x ∧ x ≤ 1000) (hkx : ∀ x ∈ k, -1000 ≤ x ∧ x ≤ 1000) (hn : -100 ≤ n ∧ n ≤ 100) (ha : K.Rd w 1 A l.length (l.map (Value.int .i64))) (hb : K.Rd w 1 B k.length (k.map (Value.int .i64))) :
    Calls Try.prog 75 #[.agg #[.slice A l.length c, .slice B k.length d], .bool false, .int .i64 j, .int .i64 n] w (BoardH.RetBoard w (l.set (j + 1) (l[j + 1] + n)) (k.set j (k[j] - 2 * n))) := by
  obtain ⟨o, ho⟩ : ∃ o : Obj, o = .cells #[.slice A l.length c, .slice B k.length d] 27 := ⟨_, rfl⟩
  obtain ⟨o2, ho2⟩ : ∃ o : Obj, o = .cells #[.slice none 0 0, .slice none 0 0] 27 := ⟨_, rfl⟩
  have r := (ha.alloc o).alloc o2
  have t := (hb.alloc o).alloc o2
  have x : K.Box ((w.alloc o).alloc o2) w.heap.size [.slice A l.length c, .slice B k.length d] := by rw [ho]; exact (K.Box.new w #[.slice A l.length c, .slice B k.length d] 27).alloc _
  have z : K.Own ((w.alloc o).alloc o2) (w.heap.size + 1) [.slice none 0 0, .slice none 0 0] := by have h := K.Own.new (w.alloc o) #[.slice none 0 0, .slice none 0 0] 27; rw [World.size_alloc] at h; rw [ho2]; exact h
  have bb : Below w.heap.size w ((w.alloc o).alloc o2) := by (repeat (first | exact Below.refl _ _ | assumption | (refine K.below_drewN ?_ _) | (refine Below.drew ?_) | (refine Below.alloc ?_ (by first | (simp; done) | (simp; omega) | omega) _) | (refine Below.setCell ?_ (by first | (simp; done) | (simp; omega) | omega) _)))
  subst ho ho2
  obtain ⟨n1, n2⟩ := hn
  have hj1 : (0 : Int) ≤ (j : Int) := by omega
  have hj2 : (j : Int) < (l.length : Int) := by omega
  have hj3 : (j : Int) < (k.length : Int) := by omega
  have hj4 : (j : Int) + 1 < (l.length : Int) := by omega
  have hj5 : (0 : Int) ≤ (j : Int) + 1 := by omega
  have hj6 : IntKind.i64.wrap ((j : Int) + 1) = (j : Int) + 1 := IntWalk.i64_in _ (by omega)
  have hj7 : ((j : Int) + 1).toNat = j + 1 := by omega
  obtain ⟨L, hL⟩ : ∃ L, L = l.set (j + 1) (l[j + 1] + n) := ⟨_, rfl⟩
  obtain ⟨Q, hQ⟩ : ∃ Q, Q = k.set j (k[j] - 2 * n) := ⟨_, rfl⟩
  rw [← hL, ← hQ]
  have HLn := Lib.hid (show L.length = l.length by rw [hL, List.length_set])
  have HQn := Lib.hid (show Q.length = k.length by rw [hQ, List.length_set])
  have HL := Lib.hid hL
  have HQ := Lib.hid hQ
  clear hL hQ
  have hiny : j < k.length := by omega
  obtain ⟨vy1, vy2⟩ := hkx k[j] (List.getElem_mem _)
  have hinx : j + 1 < l.length := by omega
  obtain ⟨vx1, vx2⟩ := hlx l[j + 1] (List.getElem_mem _)
  have HO := Lib.hid (s_own A c l B d k _ (by omega) (by omega) r t)
  clear hlx hkx ha hb
  go_enter Try.func75, Try.ntmps75
  have p0 := x.c2
  have pg := x.1
  go_wp2_with fail
  refine HO.out.mono ?_
  rintro e w1 ⟨X, c1, Y, c2, rfl, row, row2, ap, b1⟩
  have bz := bb.trans (b1.mono bb.size)
  have zz := z.below b1
  have hz9 := z.1.1
  have hz8 := b1.size
  have rx := (row.more (lo' := w.heap.size) (by simp <;> omega)).alloc (.cells #[.slice X l.length c1, .slice Y k.length c2] 27)
  have ry := (row2.more (lo' := w.heap.size) (by simp <;> omega)).alloc (.cells #[.slice X l.length c1, .slice Y k.length c2] 27)
  have own := K.Own.new w1 #[.slice X l.length c1, .slice Y k.length c2] 27
  have nX : K.blk X ≠ some w1.heap.size := fun h => Nat.lt_irrefl _ (row.lt _ h).2
  have nY : K.blk Y ≠ some w1.heap.size := fun h => Nat.lt_irrefl _ (row2.lt _ h).2
  have lX := row.lt
  have lY := row2.lt
  replace zz := zz.alloc (.cells #[.slice X l.length c1, .slice Y k.length c2] 27)
  replace bz := bz.alloc bz.size (.cells #[.slice X l.length c1, .slice Y k.length c2] 27)
  clear row row2 b1 p0 pg x z bb r t HO
  go_wp2_with fail
  obtain ⟨W, hW⟩ : ∃ W, W = w1.alloc (.cells #[.slice X l.length c1, .slice Y k.length c2] 27) := ⟨_, rfl⟩
  rw [← hW] at rx ry own zz bz ⊢
  have hg1 : w.heap.size + 1 < w1.heap.size := by simp at hz8; omega
  simp at lX lY
  clear hW hz8
  obtain ⟨gx, rfl, gx1, gx2, hcx, hfx⟩ := rx.int (k := j + 1) hinx
  obtain ⟨gy, rfl, gy1, gy2, hcy, hfy⟩ := ry.int (k := j) hiny
  have n1a : ¬ gx = gy := fun e => ap gx rfl (by rw [e]; rfl)
  have n1b : ¬ gy = gx := fun e => n1a e.symm
  have n2a : ¬ gx = w1.heap.size := fun e => nX (by rw [← e]; rfl)
  have n2b : ¬ gy = w1.heap.size := fun e => nY (by rw [← e]; rfl)
  have mx := (lX gx rfl).1
  have my := (lY gy rfl).1
  have HAP := Lib.hid ap
  clear ap nX nY lX lY gx1 gy1
  obtain ⟨w11, w12, w13, w14, w15⟩ := own.c2
  have sa : IntKind.i64.wrap (2 * n) = 2 * n := IntWalk.i64_in _ (by omega)
  have sb : IntKind.i64.wrap (k[j] - 2 * n) = k[j] - 2 * n := IntWalk.i64_in _ (by omega)
  go_region
  all_goals (try clear sa sb)
  go_wp2_with fail
  obtain ⟨W2, hW2⟩ : ∃ X, X = (W.setCell ⟨gy, j, none⟩ (.int .i64 (k[j] - 2 * n))).drew := ⟨_, rfl⟩
  have ryn : K.Row W2 w.heap.size 3 1 (some ⟨gy, 0, none⟩) k.length c2 (Q.map (Value.int .i64)) := by rw [hW2, HQ.out]; exact (ry.setInt (j) _).drew
  replace rx := (rx.setNe (p := ⟨gy, j, none⟩) (fun q hq => by simp [K.blk] at hq; subst hq; exact n1b) (.int .i64 (k[j] - 2 * n))).drew
  rw [← hW2] at rx
  replace own := (own.setOther (p := ⟨gy, j, none⟩) n2b (.int .i64 (k[j] - 2 * n))).drew
  replace zz := (zz.setOther (p := ⟨gy, j, none⟩) (by simp; omega) (.int .i64 (k[j] - 2 * n))).drew
  replace bz := (bz.setCell (p := ⟨gy, j, none⟩) (by simp; omega) (.int .i64 (k[j] - 2 * n))).drew
  rw [← hW2] at own zz bz ⊢
  clear hW2 ry w11 w12 w13 w14 w15 hcx hfx hcy hfy
  have ry := ryn
  clear ryn
  obtain ⟨gx2, hge, _, _, hcx, hfx⟩ := rx.int (k := j + 1) hinx
  injection hge with hge
  injection hge with hge
  subst hge
  skip
  have hfx := trivial
  skip
  have hfy := trivial
  have hcy := trivial
  obtain ⟨w11, w12, w13, w14, w15⟩ := own.c2
  have sb : IntKind.i64.wrap (l[j + 1] + n) = l[j + 1] + n := IntWalk.i64_in _ (by omega)
  go_region
  all_goals (try clear sb)
  skip
  obtain ⟨W3, hW3⟩ : ∃ X, X = (W2.setCell ⟨gx, j + 1, none⟩ (.int .i64 (l[j + 1] + n))).drew := ⟨_, rfl⟩
  have rxn : K.Row W3 w.heap.size 3 1 (some ⟨gx, 0, none⟩) l.length c1 (L.map (Value.int .i64)) := by rw [hW3, HL.out]; exact (rx.setInt (j + 1) _).drew
  replace ry := (ry.setNe (p := ⟨gx, j + 1, none⟩) (fun q hq => by simp [K.blk] at hq; subst hq; exact n1a) (.int .i64 (l[j + 1] + n))).drew
  rw [← hW3] at ry
  replace own := (own.setOther (p := ⟨gx, j + 1, none⟩) n2a (.int .i64 (l[j + 1] + n))).drew
  replace zz := (zz.setOther (p := ⟨gx, j + 1, none⟩) (by simp; omega) (.int .i64 (l[j + 1] + n))).drew
  replace bz := (bz.setCell (p := ⟨gx, j + 1, none⟩) (by simp; omega) (.int .i64 (l[j + 1] + n))).drew
  rw [← hW3] at own zz bz ⊢
  clear hW3 rx w11 w12 w13 w14 w15 hcx hfx hcy hfy
  have rx := rxn
  clear rxn
  obtain ⟨w11, w12, w13, w14, w15⟩ := own.c2
  obtain ⟨z1, z2, z3, z4, z5⟩ := zz.c2
  go_wp2_with fail
  exact bodyPost_ret (v := .agg #[.slice (some ⟨gx, 0, none⟩) L.length c1, .slice (some ⟨gy, 0, none⟩) Q.length c2]) (by rw [HLn.out, HQn.out]; simp [results, Try.results75, go_sem, *]) rfl ⟨some ⟨gx, 0, none⟩, c1, some ⟨gy, 0, none⟩, c2, rfl, by rw [HLn.out]; exact ((rx.setNe (fun q hq => by simp [K.blk] at hq; subst hq; simp; omega) _).setNe (fun q hq => by simp [K.blk] at hq; subst hq; simp; omega) _), by rw [HQn.out]; exact ((ry.setNe (fun q hq => by simp [K.blk] at hq; subst hq; simp; omega) _).setNe (fun q hq => by simp [K.blk] at hq; subst hq; simp; omega) _), HAP.out, by (repeat (first | exact Below.refl _ _ | assumption | (refine K.below_drewN ?_ _) | (refine Below.drew ?_) | (refine Below.alloc ?_ (by first | (simp; done) | (simp; omega) | omega) _) | (refine Below.setCell ?_ (by first | (simp; done) | (simp; omega) | omega) _)))⟩
  --@end
end Go.Proofs.Ytmgegacgjppdbaa.BoardO
