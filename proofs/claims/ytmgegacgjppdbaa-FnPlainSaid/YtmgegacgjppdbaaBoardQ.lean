/-
  Walks: making a board plain, in the reference.
-/
import Derived.Test.YtmgegacgjppdbaaBoardP
set_option linter.unusedVariables false
namespace Go.Proofs.Ytmgegacgjppdbaa.M
/-- bounds that stay whatever the checks say. -/
def plBd (kk : Nat) (L Q : List Int) : Prop := (∀ j, 0 ≤ L.getD j 0 ∧ L.getD j 0 ≤ 100) ∧ (∀ j, 0 ≤ Q.getD j 0 ∧ Q.getD j 0 ≤ 100) ∧ L.getD kk 0 ≤ 55 ∧ (∀ j, kk < j → L.getD j 0 ≤ 30) ∧ (∀ j, kk ≤ j → Q.getD j 0 ≤ 30)
theorem getD_out (l : List Int) (j : Nat) (h : l.length ≤ j) : l.getD j 0 = 0 := by simp [List.getD, h]
theorem plBd_start {l k : List Int} (h : bOk l k = true) : plBd 0 l k := by
  obtain ⟨_, b, c, d⟩ := (bOk_ix l k).1 h
  have hl : ∀ j, 0 ≤ l.getD j 0 ∧ l.getD j 0 ≤ 30 := fun j => by
    rcases Nat.lt_or_ge j l.length with h | h
    · exact c j h
    · rw [getD_out l j h]; omega
  have hk : ∀ j, 0 ≤ k.getD j 0 ∧ k.getD j 0 ≤ 30 := fun j => by
    rcases Nat.lt_or_ge j k.length with h | h
    · exact d j h
    · rw [getD_out k j h]; omega
  exact ⟨fun j => by have := hl j; omega, fun j => by have := hk j; omega, by have := hl 0; omega, fun j _ => (hl j).2, fun j _ => (hk j).2⟩
/-- after the lines of place kk. -/
theorem plBd_one {kk : Nat} {L Q : List Int} {n : Int} (h : plBd kk L Q) (h1 : kk < L.length) (h2 : kk < Q.length) :
    (∀ j, 0 ≤ (pl1 (L, Q, n) kk).1.getD j 0 ∧ (pl1 (L, Q, n) kk).1.getD j 0 ≤ 100) ∧ (∀ j, 0 ≤ (pl1 (L, Q, n) kk).2.1.getD j 0 ∧ (pl1 (L, Q, n) kk).2.1.getD j 0 ≤ 100) ∧ (pl1 (L, Q, n) kk).2.1.getD kk 0 ≤ 41 ∧ (∀ j, kk < j → (pl1 (L, Q, n) kk).1.getD j 0 ≤ 30) ∧ (∀ j, kk < j → (pl1 (L, Q, n) kk).2.1.getD j 0 ≤ 30) := by
  obtain ⟨a, b, c, d, f⟩ := h
  have ak := a kk
  have fk := f kk (Nat.le_refl _)
  have bk := b kk
  simp only [pl1]
  refine ⟨fun j => ?_, fun j => ?_, ?_, fun j hj => ?_, fun j hj => ?_⟩
  · rw [getD_set _ _ _ h1]; split
    · omega
    · exact a j
  · rw [getD_set _ _ _ h2]; split
    · omega
    · exact b j
  · rw [getD_set_same _ _ h2]; omega
  · rw [getD_set_ne _ _ _ (by omega)]; exact d j hj
  · rw [getD_set_ne _ _ _ (by omega)]; exact f j (by omega)
theorem plBd_two {kk : Nat} {L Q : List Int} {n : Int} (a : ∀ j, 0 ≤ L.getD j 0 ∧ L.getD j 0 ≤ 100) (b : ∀ j, 0 ≤ Q.getD j 0 ∧ Q.getD j 0 ≤ 100) (c : Q.getD kk 0 ≤ 41) (d : ∀ j, kk < j → L.getD j 0 ≤ 30) (f : ∀ j, kk < j → Q.getD j 0 ≤ 30) (h1 : kk + 1 < L.length) (h2 : kk < Q.length) :
    plBd (kk + 1) (pl2 (L, Q, n) kk).1 (pl2 (L, Q, n) kk).2.1 := by
  have dk := d (kk + 1) (by omega)
  have ak := a (kk + 1)
  have bk := b kk
  simp only [pl2]
  refine ⟨fun j => ?_, fun j => ?_, ?_, fun j hj => ?_, fun j hj => ?_⟩
  · rw [getD_set _ _ _ h1]; split
    · omega
    · exact a j
  · rw [getD_set _ _ _ h2]; split
    · omega
    · exact b j
  · rw [getD_set_same _ _ h1]; omega
  · rw [getD_set_ne _ _ _ (by omega)]; exact d j (by omega)
  · rw [getD_set_ne _ _ _ (by omega)]; exact f j (by omega)
theorem pl1_sets {L Q : List Int} {n : Int} {kk : Nat} (h1 : kk < L.length) (h2 : kk < Q.length) : L.set kk (L[kk] - 5 * (L[kk] / 5)) = (pl1 (L, Q, n) kk).1 ∧ Q.set kk (Q[kk] + L[kk] / 5) = (pl1 (L, Q, n) kk).2.1 := by
  simp only [pl1]
  rw [getD_at L kk h1, getD_at Q kk h2]
  exact ⟨by congr 1; omega, rfl⟩
theorem pl2_sets {L Q : List Int} {n : Int} {kk : Nat} (h1 : kk + 1 < L.length) (h2 : kk < Q.length) : L.set (kk + 1) (L[kk + 1] + Q[kk] / 2) = (pl2 (L, Q, n) kk).1 ∧ Q.set kk (Q[kk] - 2 * (Q[kk] / 2)) = (pl2 (L, Q, n) kk).2.1 := by
  simp only [pl2]
  rw [getD_at L (kk + 1) h1, getD_at Q kk h2]
  exact ⟨rfl, by congr 1; omega⟩
theorem mem_bd {l : List Int} (a : ∀ j, 0 ≤ l.getD j 0 ∧ l.getD j 0 ≤ 100) : ∀ x ∈ l, -1000 ≤ x ∧ x ≤ 1000 := by
  refine (all_ix l (-1000) 1000).2 (fun j _ => ?_)
  have := a j; omega
/-- where the walk stands: all is well so far, or nothing will be. -/
def plSt (m : Nat) (R0 : Option PS) (ok : Bool) (kk : Nat) (L Q : List Int) (n : Int) : Prop := (ok = true ∧ plFrom m (some (L, Q, n)) (m - kk) kk = R0 ∧ plOk (L, Q, n) = true) ∨ (ok = false ∧ R0 = none)
theorem plSt_step {m : Nat} {R0 : Option PS} {ok : Bool} {kk : Nat} {L Q : List Int} {n : Int} (hlt : kk < m) (h : plSt m R0 ok kk L Q n) : (ok = true ∧ plFrom m (plOne m (L, Q, n) kk) (m - (kk + 1)) (kk + 1) = R0) ∨ (ok = false ∧ R0 = none) := by
  rcases h with ⟨h1, h2, h3⟩ | h
  · rw [show m - kk = (m - (kk + 1)) + 1 by omega] at h2
    exact .inl ⟨h1, h2⟩
  · exact .inr h
end Go.Proofs.Ytmgegacgjppdbaa.M
namespace Go.Proofs.Ytmgegacgjppdbaa.BoardP
open Go.RowKit
set_option maxRecDepth 100000 in
set_option maxHeartbeats 4000000 in
theorem s_plain (A : Option Addr) (c : Nat) (l : List Int) (B : Option Addr) (d : Nat) (k : List Int) (w : World) (hl : l.length ≤ 1048576) (hk : k.length ≤ 1048576) (ha : K.Rd w 1 A l.length (l.map (Value.int .i64))) (hb : K.Rd w 1 B k.length (k.map (Value.int .i64))) :
    Calls Try.prog 41 #[.agg #[.slice A l.length c, .slice B k.length d]] w (BoardH.RetBoardIB w (M.plainB l k).1.1 (M.plainB l k).1.2 (M.plainB l k).2.1 (M.plainB l k).2.2) := by
  obtain ⟨o, ho⟩ : ∃ o : Obj, o = .cells #[.slice A l.length c, .slice B k.length d] 27 := ⟨_, rfl⟩
  obtain ⟨o2, ho2⟩ : ∃ o : Obj, o = .cells #[.slice none 0 0, .slice none 0 0] 27 := ⟨_, rfl⟩
  have r := (ha.alloc o).alloc o2
  have t := (hb.alloc o).alloc o2
  have x : K.Box ((w.alloc o).alloc o2) w.heap.size [.slice A l.length c, .slice B k.length d] := by rw [ho]; exact (K.Box.new w #[.slice A l.length c, .slice B k.length d] 27).alloc _
  have z : K.Own ((w.alloc o).alloc o2) (w.heap.size + 1) [.slice none 0 0, .slice none 0 0] := by have h := K.Own.new (w.alloc o) #[.slice none 0 0, .slice none 0 0] 27; rw [World.size_alloc] at h; rw [ho2]; exact h
  have bb : Below w.heap.size w ((w.alloc o).alloc o2) := ((Below.refl _ _).alloc (Nat.le_refl _) _).alloc (by simp) _
  have hs0 : w.heap.size + 1 + 1 ≤ ((w.alloc o).alloc o2).heap.size := by simp
  have HS := Lib.hid (BoardF.s_good A c l B d k _ hl hk r t)
  subst ho ho2
  clear ha hb
  cases hok : M.bOk l k with
  | false =>
    rw [hok] at HS
    rw [M.plainB_no hok]
    clear hok
    obtain ⟨x0, x1⟩ := x.c2
    have xg := x.1
    go_enter Try.func41, Try.ntmps41
    go_wp2_with fail
    refine HS.out.mono ?_
    rintro e w1 ⟨rfl, b1⟩
    obtain ⟨z0, z1, z2, z3, z4⟩ := (z.below b1).c2
    have bbz := bb.trans (b1.mono bb.size)
    clear x0 x1 xg x z r t
    go_wp2_with fail
    exact bodyPost_ret (v := .tuple #[.agg #[.slice none 0 0, .slice none 0 0], .int .i64 0, .bool false]) (by simp [results, Try.results41, go_sem, *]) rfl ⟨none, 0, none, 0, rfl, K.Row.nil _ _ _ _, K.Row.nil _ _ _ _, fun g h => by simp [K.blk] at h, by (repeat (first | exact Below.refl _ _ | assumption | (refine K.below_drewN ?_ _) | (refine Below.drew ?_) | (refine Below.alloc ?_ (by first | (simp; done) | (simp; omega) | omega) _) | (refine Below.setCell ?_ (by first | (simp; done) | (simp; omega) | omega) _)))⟩
  | true =>
    rw [hok] at HS
    obtain ⟨⟨hm1, hm6⟩, hkl, _⟩ := (M.bOk_iff l k).1 hok
    obtain ⟨RR, hRR⟩ : ∃ X, X = M.plainB l k := ⟨_, rfl⟩
    rw [← hRR]
    rw [M.plainB_yes hok] at hRR
    obtain ⟨R0, hR0⟩ : ∃ X, X = M.plFrom l.length (some (l, k, 0)) l.length 0 := ⟨_, rfl⟩
    rw [← hR0] at hRR
    have HRR := Lib.hid hRR
    have HR0 := Lib.hid hR0
    have HKL := Lib.hid hkl
    have HOK := Lib.hid hok
    clear hRR hR0 hkl hok
    obtain ⟨x0, x1⟩ := x.c2
    have xg := x.1
    go_enter Try.func41, Try.ntmps41
    go_wp2_with fail
    refine HS.out.mono ?_
    rintro e w1 ⟨rfl, b1⟩
    clear HS x0 x1 xg
    replace x := x.below b1
    replace z := z.below b1
    replace r := r.below b1
    replace t := t.below b1
    replace hs0 : w.heap.size + 1 + 1 ≤ w1.heap.size := by have := b1.size; omega
    replace bb := bb.trans (b1.mono bb.size)
    clear b1
    obtain ⟨x0, x1⟩ := x.c2
    have xg := x.1
    have hk6 : k.length ≤ 6 := by have := HKL.out; omega
    go_wp2_with fail
    refine (BoardO.s_own A c l B d k _ hl hk r t).mono ?_
    rintro e w2 ⟨X, n1, Y, m1, rfl, q2, v2, ap2, b2⟩
    clear x0 x1 xg
    have hs2 := b2.size
    have HP := Lib.hid (⟨(q2.more hs0).alloc _, (v2.more hs0).alloc _, ap2, fun e => Nat.lt_irrefl _ (q2.lt _ e).2, fun e => Nat.lt_irrefl _ (v2.lt _ e).2, K.Own.new w2 #[.slice X l.length n1, .slice Y k.length m1] 27, (z.below b2).alloc _, (x.below b2).alloc _, (bb.trans (b2.mono bb.size)).alloc (bb.trans (b2.mono bb.size)).size _, by omega⟩ : Pl w (w2.alloc (.cells #[.slice X l.length n1, .slice Y k.length m1] 27)) w2.heap.size (.slice A l.length c) (.slice B k.length d) X n1 l Y m1 k)
    clear q2 v2 ap2 b2 x z r t bb
    obtain ⟨x0, x1⟩ := HP.out.par.c2
    have xg := HP.out.par.1
    go_wp2_with fail
    clear x0 x1 xg
    generalize w2.heap.size = g at *
    go_loopw [8, 6, 7] (fun i cn ok wr => ∃ (kk : Nat) (X : Option Addr) (n : Nat) (L : List Int) (Y : Option Addr) (m : Nat) (Q : List Int) (cnt : Int) (okb : Bool), kk < l.length ∧ i = .int .i64 (kk : Int) ∧ cn = .int .i64 cnt ∧ ok = .bool okb ∧ (0 ≤ cnt ∧ cnt ≤ 60 * kk) ∧ Hid (L.length = l.length) ∧ Hid (Q.length = l.length) ∧ Hid (M.plBd kk L Q) ∧ Hid (M.plSt l.length R0 okb kk L Q cnt) ∧ Hid (Pl w wr g (.slice A l.length c) (.slice B k.length d) X n L Y m Q)) (fun i _ _ _ => l.length - (intOf i).toNat)
    case atStart => exact ⟨0, X, n1, l, Y, m1, k, 0, true, by omega, rfl, rfl, rfl, by omega, Lib.hid rfl, HKL, Lib.hid (M.plBd_start HOK.out), Lib.hid (.inl ⟨rfl, HR0.out.symm, HOK.out⟩), HP⟩
    case round =>
      clear HP HR0 HOK HKL
      obtain ⟨kk, X, n, L, Y, m, Q, cnt, okb, hlt, rfl, rfl, rfl, ⟨hc0, hc1⟩, HLL, HQL, HBD, HST, HP⟩ := hrel
      have hlt1 : (kk : Int) < (l.length : Int) := by omega
      have hlt2 : (0 : Int) ≤ (kk : Int) := by omega
      have hix : kk < L.length := by have := HLL.out; omega
      have hiq : kk < Q.length := by have := HQL.out; omega
      have hiy : (kk : Int) < (L.length : Int) := by omega
      obtain ⟨qa, eX, hql, hqa, cX, fX⟩ := HP.out.row1.int hix
      subst eX
      have hxb : 0 ≤ L[kk] ∧ L[kk] ≤ 55 := by have h := HBD.out; have h1 := h.1 kk; have h2 := h.2.2.1; rw [M.getD_at L kk hix] at h1 h2; omega
      obtain ⟨hxb0, hxb1⟩ := hxb
      have HC := Lib.hid (fun w h h2 => BoardO.s_move_line (some ⟨qa, 0, none⟩) n L Y m Q kk (L[kk] / 5) w (by have := HLL.out; omega) (by have := HQL.out; omega) hix hiq (M.mem_bd HBD.out.1) (M.mem_bd HBD.out.2.1) (by omega) h h2)
      rw [(M.pl1_sets (n := cnt) hix hiq).1, (M.pl1_sets (n := cnt) hix hiq).2] at HC
      have HB1 := Lib.hid (M.plBd_one (n := cnt) HBD.out hix hiq)
      have HS1 : Hid (M.pl1 (L, Q, cnt) kk = (L.set kk (L.getD kk 0 % 5), Q.set kk (Q.getD kk 0 + L.getD kk 0 / 5), cnt + L.getD kk 0 / 5)) := Lib.hid rfl
      have HN1 : Hid ((M.pl1 (L, Q, cnt) kk).2.2 = cnt + L[kk] / 5) := Lib.hid (by rw [HS1.out, M.getD_at L kk hix])
      have HLL1 : Hid ((M.pl1 (L, Q, cnt) kk).1.length = l.length) := Lib.hid (by rw [HS1.out, List.length_set]; exact HLL.out)
      have HQL1 : Hid ((M.pl1 (L, Q, cnt) kk).2.1.length = l.length) := Lib.hid (by rw [HS1.out, List.length_set]; exact HQL.out)
      have HST1 := Lib.hid (M.plSt_step hlt HST.out)
      have HO1 : Hid (M.plOne l.length (L, Q, cnt) kk = if M.plOk (M.pl1 (L, Q, cnt) kk) = true then M.pl2o l.length (M.pl1 (L, Q, cnt) kk) kk else none) := Lib.hid rfl
      clear HS1 HBD HST
      obtain ⟨x, hx⟩ : ∃ x, x = L[kk] := ⟨_, rfl⟩
      rw [← hx] at HC HN1 cX hxb0 hxb1
      clear hx
      generalize M.plOne l.length (L, Q, cnt) kk = O1 at *
      generalize M.pl1 (L, Q, cnt) kk = S at *
      obtain ⟨L1, Q1, c1⟩ := S
      dsimp only at *
      have hc1e := HN1.out
      subst hc1e
      have HNL : Hid True := Lib.hid trivial
      obtain ⟨b0, b1, b2, b3, bg⟩ := HP.out.box.c2
      obtain ⟨x0, x1⟩ := HP.out.par.c2
      have xg := HP.out.par.1
      have wq : IntKind.i64.wrap (x / 5) = x / 5 := IntWalk.i64_in _ (by omega)
      have ws : IntKind.i64.wrap (cnt + x / 5) = cnt + x / 5 := IntWalk.i64_in _ (by omega)
      go_wp2_with fail
      refine (HC.out _ HP.out.row1.rd HP.out.row2.rd).mono ?_
      rintro e w3 ⟨X3, n3, Y3, m3, rfl, q3, v3, ap3, b3'⟩
      obtain ⟨e0, e1, e2, e3, eg⟩ := (HP.out.below b3').box.c2
      have HP1 := Lib.hid ((HP.out.below b3').put (by have := HP.out.box.1.1; exact this) q3 v3 ap3)
      clear q3 v3 ap3 b3' HC
      go_upto_region 9 with fail
      obtain ⟨W, hW⟩ : ∃ X, X = (w3.setCell ⟨g, 0, none⟩ (.slice X3 L1.length n3)).setCell ⟨g, 1, none⟩ (.slice Y3 Q1.length m3) := ⟨_, rfl⟩
      rw [← hW] at HP1 ⊢
      clear hW b0 b1 b2 b3 bg x0 x1 xg HP e0 e1 e2 e3 eg
      skip
      obtain ⟨b0, b1, b2, b3, bg⟩ := HP1.out.box.c2
      obtain ⟨x0, x1⟩ := HP1.out.par.c2
      have xg := HP1.out.par.1
      cases okb with
      | false =>
        have HR := Lib.hid (show R0 = none from HST1.out.elim (fun h => absurd h.1 (by simp)) (fun h => h.2))
        clear HST1
        have HPX := HP1
        clear HP1
        by_cases hkm : kk + 1 = l.length
        · skip
          have hkm1 : ((kk : Int) + 1 == (l.length : Int)) = true := by rw [beq_iff_eq]; omega
          clear hkm
          have HE := Lib.hid (show RR = (([], []), 0, false) by rw [HRR.out, HR.out]; rfl)
          obtain ⟨z0, z1, z2, z3, z4⟩ := HPX.out.res.c2
          have bbz := HPX.out.bel
          go_wp2_with fail
          rw [HE.out]
          exact bodyPost_ret (v := .tuple #[.agg #[.slice none 0 0, .slice none 0 0], .int .i64 0, .bool false]) (by simp [results, Try.results41, go_sem, *]) rfl ⟨none, 0, none, 0, rfl, K.Row.nil _ _ _ _, K.Row.nil _ _ _ _, fun g h => by simp [K.blk] at h, by (repeat (first | exact Below.refl _ _ | assumption | (refine K.below_drewN ?_ _) | (refine Below.drew ?_) | (refine Below.alloc ?_ (by first | (simp; done) | (simp; omega) | omega) _) | (refine Below.setCell ?_ (by first | (simp; done) | (simp; omega) | omega) _)))⟩
        · skip
          have hkm1 : ((kk : Int) + 1 == (l.length : Int)) = false := by rw [beq_eq_false_iff_ne]; omega
          have hk2 : kk + 1 < L1.length := by have := HLL1.out; omega
          have hkq : kk < Q1.length := by have := HQL1.out; omega
          have hkq1 : (kk : Int) < (Q1.length : Int) := by omega
          obtain ⟨qb, eY, hqlb, hqb, cY, fY⟩ := HPX.out.row2.int hkq
          subst eY
          have hyb : 0 ≤ Q1[kk] ∧ Q1[kk] ≤ 41 := by have h := HB1.out; have h1 := h.2.1 kk; have h2 := h.2.2.1; rw [M.getD_at Q1 kk hkq] at h1 h2; omega
          obtain ⟨hyb0, hyb1⟩ := hyb
          have HC := Lib.hid (fun w h h2 => BoardO.s_move_space X3 n3 L1 (some ⟨qb, 0, none⟩) m3 Q1 kk (Q1[kk] / 2) w (by have := HLL1.out; omega) (by have := HQL1.out; omega) hk2 hkq (M.mem_bd HB1.out.1) (M.mem_bd HB1.out.2.1) (by omega) h h2)
          rw [(M.pl2_sets (n := cnt + x / 5) hk2 hkq).1, (M.pl2_sets (n := cnt + x / 5) hk2 hkq).2] at HC
          have HB2 := Lib.hid (M.plBd_two (n := cnt + x / 5) HB1.out.1 HB1.out.2.1 HB1.out.2.2.1 HB1.out.2.2.2.1 HB1.out.2.2.2.2 hk2 hkq)
          have HS2 : Hid (M.pl2 (L1, Q1, cnt + x / 5) kk = (L1.set (kk + 1) (L1.getD (kk + 1) 0 + Q1.getD kk 0 / 2), Q1.set kk (Q1.getD kk 0 % 2), cnt + x / 5 + Q1.getD kk 0 / 2)) := Lib.hid rfl
          have HN2 : Hid ((M.pl2 (L1, Q1, cnt + x / 5) kk).2.2 = cnt + x / 5 + Q1[kk] / 2) := Lib.hid (by rw [HS2.out, M.getD_at Q1 kk hkq])
          have HLL2 : Hid ((M.pl2 (L1, Q1, cnt + x / 5) kk).1.length = l.length) := Lib.hid (by rw [HS2.out, List.length_set]; exact HLL1.out)
          have HQL2 : Hid ((M.pl2 (L1, Q1, cnt + x / 5) kk).2.1.length = l.length) := Lib.hid (by rw [HS2.out, List.length_set]; exact HQL1.out)
          have HO2 : Hid (M.pl2o l.length (L1, Q1, cnt + x / 5) kk = if M.plOk (M.pl2 (L1, Q1, cnt + x / 5) kk) = true then some (M.pl2 (L1, Q1, cnt + x / 5) kk) else none) := Lib.hid (by unfold M.pl2o; rw [if_neg hkm])
          clear HS2 HB1
          obtain ⟨y, hy⟩ : ∃ y, y = Q1[kk] := ⟨_, rfl⟩
          rw [← hy] at HC HN2 cY hyb0 hyb1
          clear hy
          generalize M.pl2o l.length (L1, Q1, cnt + x / 5) kk = O2 at *
          generalize M.pl2 (L1, Q1, cnt + x / 5) kk = S at *
          obtain ⟨L2, Q2, c2⟩ := S
          dsimp only at *
          have hc2e := HN2.out
          subst hc2e
          have wq2 : IntKind.i64.wrap (y / 2) = y / 2 := IntWalk.i64_in _ (by omega)
          have ws2 : IntKind.i64.wrap (cnt + x / 5 + y / 2) = cnt + x / 5 + y / 2 := IntWalk.i64_in _ (by omega)
          go_wp2_with fail
          refine (HC.out _ HPX.out.row1.rd HPX.out.row2.rd).mono ?_
          rintro e w6 ⟨X4, n4, Y4, m4, rfl, q4, v4, ap4, b4'⟩
          obtain ⟨e0, e1, e2, e3, eg⟩ := (HPX.out.below b4').box.c2
          have HP4 := Lib.hid ((HPX.out.below b4').put (by have := HPX.out.box.1.1; exact this) q4 v4 ap4)
          clear q4 v4 ap4 b4' HC
          go_upto_region 14 with fail
          obtain ⟨W2, hW⟩ : ∃ X, X = (w6.setCell ⟨g, 0, none⟩ (.slice X4 L2.length n4)).setCell ⟨g, 1, none⟩ (.slice Y4 Q2.length m4) := ⟨_, rfl⟩
          rw [← hW] at HP4 ⊢
          clear hW HPX cY fY e0 e1 e2 e3 eg
          clear b0 b1 b2 b3 bg x0 x1 xg
          obtain ⟨b0, b1, b2, b3, bg⟩ := HP4.out.box.c2
          obtain ⟨x0, x1⟩ := HP4.out.par.c2
          have xg := HP4.out.par.1
          go_wp2_with fail
          go_roundw
          case rel => exact ⟨kk + 1, X4, n4, L2, Y4, m4, Q2, cnt + x / 5 + y / 2, false, by omega, by go_num, rfl, rfl, ⟨by omega, by omega⟩, HLL2, HQL2, HB2, Lib.hid (.inr ⟨rfl, HR.out⟩), HP4⟩
          case measure => simp [intOf]; omega
      | true =>
        have HR1 := Lib.hid (show M.plFrom l.length O1 (l.length - (kk + 1)) (kk + 1) = R0 from HST1.out.elim (fun h => h.2) (fun h => absurd h.1 (by simp)))
        clear HST1
        have HG := Lib.hid (fun w h h2 => BoardF.s_good X3 n3 L1 Y3 m3 Q1 w (by have := HLL1.out; omega) (by have := HQL1.out; omega) h h2)
        cases hg1 : M.bOk L1 Q1 with
        | false =>
          rw [hg1] at HG
          have HR := Lib.hid (show R0 = none by rw [← HR1.out, HO1.out, if_neg (by show ¬ (M.bOk L1 Q1 = true); rw [hg1]; simp), M.plFrom_none])
          clear hg1 HR1 HO1
          go_wp2_with fail
          refine (HG.out _ HP1.out.row1.rd HP1.out.row2.rd).mono ?_
          rintro e w4 ⟨rfl, b4⟩
          clear b0 b1 b2 b3 bg x0 x1 xg
          have HPX := Lib.hid (HP1.out.below b4)
          clear b4 HP1 HG
          obtain ⟨b0, b1, b2, b3, bg⟩ := HPX.out.box.c2
          obtain ⟨x0, x1⟩ := HPX.out.par.c2
          have xg := HPX.out.par.1
          by_cases hkm : kk + 1 = l.length
          · skip
            have hkm1 : ((kk : Int) + 1 == (l.length : Int)) = true := by rw [beq_iff_eq]; omega
            clear hkm
            have HE := Lib.hid (show RR = (([], []), 0, false) by rw [HRR.out, HR.out]; rfl)
            obtain ⟨z0, z1, z2, z3, z4⟩ := HPX.out.res.c2
            have bbz := HPX.out.bel
            go_wp2_with fail
            rw [HE.out]
            exact bodyPost_ret (v := .tuple #[.agg #[.slice none 0 0, .slice none 0 0], .int .i64 0, .bool false]) (by simp [results, Try.results41, go_sem, *]) rfl ⟨none, 0, none, 0, rfl, K.Row.nil _ _ _ _, K.Row.nil _ _ _ _, fun g h => by simp [K.blk] at h, by (repeat (first | exact Below.refl _ _ | assumption | (refine K.below_drewN ?_ _) | (refine Below.drew ?_) | (refine Below.alloc ?_ (by first | (simp; done) | (simp; omega) | omega) _) | (refine Below.setCell ?_ (by first | (simp; done) | (simp; omega) | omega) _)))⟩
          · skip
            have hkm1 : ((kk : Int) + 1 == (l.length : Int)) = false := by rw [beq_eq_false_iff_ne]; omega
            have hk2 : kk + 1 < L1.length := by have := HLL1.out; omega
            have hkq : kk < Q1.length := by have := HQL1.out; omega
            have hkq1 : (kk : Int) < (Q1.length : Int) := by omega
            obtain ⟨qb, eY, hqlb, hqb, cY, fY⟩ := HPX.out.row2.int hkq
            subst eY
            have hyb : 0 ≤ Q1[kk] ∧ Q1[kk] ≤ 41 := by have h := HB1.out; have h1 := h.2.1 kk; have h2 := h.2.2.1; rw [M.getD_at Q1 kk hkq] at h1 h2; omega
            obtain ⟨hyb0, hyb1⟩ := hyb
            have HC := Lib.hid (fun w h h2 => BoardO.s_move_space X3 n3 L1 (some ⟨qb, 0, none⟩) m3 Q1 kk (Q1[kk] / 2) w (by have := HLL1.out; omega) (by have := HQL1.out; omega) hk2 hkq (M.mem_bd HB1.out.1) (M.mem_bd HB1.out.2.1) (by omega) h h2)
            rw [(M.pl2_sets (n := cnt + x / 5) hk2 hkq).1, (M.pl2_sets (n := cnt + x / 5) hk2 hkq).2] at HC
            have HB2 := Lib.hid (M.plBd_two (n := cnt + x / 5) HB1.out.1 HB1.out.2.1 HB1.out.2.2.1 HB1.out.2.2.2.1 HB1.out.2.2.2.2 hk2 hkq)
            have HS2 : Hid (M.pl2 (L1, Q1, cnt + x / 5) kk = (L1.set (kk + 1) (L1.getD (kk + 1) 0 + Q1.getD kk 0 / 2), Q1.set kk (Q1.getD kk 0 % 2), cnt + x / 5 + Q1.getD kk 0 / 2)) := Lib.hid rfl
            have HN2 : Hid ((M.pl2 (L1, Q1, cnt + x / 5) kk).2.2 = cnt + x / 5 + Q1[kk] / 2) := Lib.hid (by rw [HS2.out, M.getD_at Q1 kk hkq])
            have HLL2 : Hid ((M.pl2 (L1, Q1, cnt + x / 5) kk).1.length = l.length) := Lib.hid (by rw [HS2.out, List.length_set]; exact HLL1.out)
            have HQL2 : Hid ((M.pl2 (L1, Q1, cnt + x / 5) kk).2.1.length = l.length) := Lib.hid (by rw [HS2.out, List.length_set]; exact HQL1.out)
            have HO2 : Hid (M.pl2o l.length (L1, Q1, cnt + x / 5) kk = if M.plOk (M.pl2 (L1, Q1, cnt + x / 5) kk) = true then some (M.pl2 (L1, Q1, cnt + x / 5) kk) else none) := Lib.hid (by unfold M.pl2o; rw [if_neg hkm])
            clear HS2 HB1
            obtain ⟨y, hy⟩ : ∃ y, y = Q1[kk] := ⟨_, rfl⟩
            rw [← hy] at HC HN2 cY hyb0 hyb1
            clear hy
            generalize M.pl2o l.length (L1, Q1, cnt + x / 5) kk = O2 at *
            generalize M.pl2 (L1, Q1, cnt + x / 5) kk = S at *
            obtain ⟨L2, Q2, c2⟩ := S
            dsimp only at *
            have hc2e := HN2.out
            subst hc2e
            have wq2 : IntKind.i64.wrap (y / 2) = y / 2 := IntWalk.i64_in _ (by omega)
            have ws2 : IntKind.i64.wrap (cnt + x / 5 + y / 2) = cnt + x / 5 + y / 2 := IntWalk.i64_in _ (by omega)
            go_wp2_with fail
            refine (HC.out _ HPX.out.row1.rd HPX.out.row2.rd).mono ?_
            rintro e w6 ⟨X4, n4, Y4, m4, rfl, q4, v4, ap4, b4'⟩
            obtain ⟨e0, e1, e2, e3, eg⟩ := (HPX.out.below b4').box.c2
            have HP4 := Lib.hid ((HPX.out.below b4').put (by have := HPX.out.box.1.1; exact this) q4 v4 ap4)
            clear q4 v4 ap4 b4' HC
            go_upto_region 14 with fail
            obtain ⟨W2, hW⟩ : ∃ X, X = (w6.setCell ⟨g, 0, none⟩ (.slice X4 L2.length n4)).setCell ⟨g, 1, none⟩ (.slice Y4 Q2.length m4) := ⟨_, rfl⟩
            rw [← hW] at HP4 ⊢
            clear hW HPX cY fY e0 e1 e2 e3 eg
            clear b0 b1 b2 b3 bg x0 x1 xg
            obtain ⟨b0, b1, b2, b3, bg⟩ := HP4.out.box.c2
            obtain ⟨x0, x1⟩ := HP4.out.par.c2
            have xg := HP4.out.par.1
            go_wp2_with fail
            go_roundw
            case rel => exact ⟨kk + 1, X4, n4, L2, Y4, m4, Q2, cnt + x / 5 + y / 2, false, by omega, by go_num, rfl, rfl, ⟨by omega, by omega⟩, HLL2, HQL2, HB2, Lib.hid (.inr ⟨rfl, HR.out⟩), HP4⟩
            case measure => simp [intOf]; omega
        | true =>
          rw [hg1] at HG
          have HR := Lib.hid (show M.plFrom l.length (M.pl2o l.length (L1, Q1, cnt + x / 5) kk) (l.length - (kk + 1)) (kk + 1) = R0 by rw [← HR1.out, HO1.out, if_pos (show M.plOk (L1, Q1, cnt + x / 5) = true from hg1)])
          have HOK1 := Lib.hid hg1
          clear hg1 HR1 HO1
          go_wp2_with fail
          refine (HG.out _ HP1.out.row1.rd HP1.out.row2.rd).mono ?_
          rintro e w4 ⟨rfl, b4⟩
          clear b0 b1 b2 b3 bg x0 x1 xg
          have HPX := Lib.hid (HP1.out.below b4)
          clear b4 HP1 HG
          obtain ⟨b0, b1, b2, b3, bg⟩ := HPX.out.box.c2
          obtain ⟨x0, x1⟩ := HPX.out.par.c2
          have xg := HPX.out.par.1
          by_cases hkm : kk + 1 = l.length
          · skip
            have hkm1 : ((kk : Int) + 1 == (l.length : Int)) = true := by rw [beq_iff_eq]; omega
            have HR9 := Lib.hid (show R0 = some (L1, Q1, cnt + x / 5) by have h := HR.out; rw [show l.length - (kk + 1) = 0 by omega] at h; rw [← h]; show M.pl2o l.length (L1, Q1, cnt + x / 5) kk = _; unfold M.pl2o; rw [if_pos hkm])
            clear HR
            have HR := HR9
            have HOKF := HOK1
            clear hkm
            have HG := Lib.hid (fun w h h2 => BoardF.s_plain X3 n3 L1 Y3 m3 Q1 w HOKF.out h h2)
            cases hpl : M.bPlain L1 Q1 with
            | false =>
              rw [hpl] at HG
              have HE := Lib.hid (show RR = (([], []), 0, false) by rw [HRR.out, HR.out]; simp [M.plEnd, hpl])
              clear hpl
              go_wp2_with fail
              refine (HG.out _ HPX.out.row1.rd HPX.out.row2.rd).mono ?_
              rintro e w5 ⟨rfl, b5⟩
              obtain ⟨z0, z1, z2, z3, z4⟩ := (HPX.out.below b5).res.c2
              have bbz := (HPX.out.below b5).bel
              clear b0 b1 b2 b3 bg x0 x1 xg
              go_wp2_with fail
              rw [HE.out]
              exact bodyPost_ret (v := .tuple #[.agg #[.slice none 0 0, .slice none 0 0], .int .i64 0, .bool false]) (by simp [results, Try.results41, go_sem, *]) rfl ⟨none, 0, none, 0, rfl, K.Row.nil _ _ _ _, K.Row.nil _ _ _ _, fun g h => by simp [K.blk] at h, by (repeat (first | exact Below.refl _ _ | assumption | (refine K.below_drewN ?_ _) | (refine Below.drew ?_) | (refine Below.alloc ?_ (by first | (simp; done) | (simp; omega) | omega) _) | (refine Below.setCell ?_ (by first | (simp; done) | (simp; omega) | omega) _)))⟩
            | true =>
              rw [hpl] at HG
              have HE := Lib.hid (show RR = ((L1, Q1), cnt + x / 5, true) by rw [HRR.out, HR.out]; simp [M.plEnd, hpl])
              clear hpl
              go_wp2_with fail
              refine (HG.out _ HPX.out.row1.rd HPX.out.row2.rd).mono ?_
              rintro e w5 ⟨rfl, b5⟩
              clear b0 b1 b2 b3 bg x0 x1 xg
              have P5 := Lib.hid (HPX.out.below b5)
              obtain ⟨b0, b1, b2, b3, bg⟩ := P5.out.box.c2
              obtain ⟨z0, z1, z2, z3, z4⟩ := P5.out.res.c2
              have bbz := P5.out.bel
              have hglo := P5.out.glo
              go_wp2_with fail
              rw [HE.out]
              exact bodyPost_ret (v := .tuple #[.agg #[.slice X3 L1.length n3, .slice Y3 Q1.length m3], .int .i64 (cnt + x / 5), .bool true]) (by simp [results, Try.results41, go_sem, *]) rfl ⟨X3, n3, Y3, m3, rfl, ((P5.out.row1.setOther (by simp only; omega) _).setOther (by simp only; omega) _).more (by omega), ((P5.out.row2.setOther (by simp only; omega) _).setOther (by simp only; omega) _).more (by omega), P5.out.ap, by (repeat (first | exact Below.refl _ _ | assumption | (refine K.below_drewN ?_ _) | (refine Below.drew ?_) | (refine Below.alloc ?_ (by first | (simp; done) | (simp; omega) | omega) _) | (refine Below.setCell ?_ (by first | (simp; done) | (simp; omega) | omega) _)))⟩
          · skip
            have hkm1 : ((kk : Int) + 1 == (l.length : Int)) = false := by rw [beq_eq_false_iff_ne]; omega
            have hk2 : kk + 1 < L1.length := by have := HLL1.out; omega
            have hkq : kk < Q1.length := by have := HQL1.out; omega
            have hkq1 : (kk : Int) < (Q1.length : Int) := by omega
            obtain ⟨qb, eY, hqlb, hqb, cY, fY⟩ := HPX.out.row2.int hkq
            subst eY
            have hyb : 0 ≤ Q1[kk] ∧ Q1[kk] ≤ 41 := by have h := HB1.out; have h1 := h.2.1 kk; have h2 := h.2.2.1; rw [M.getD_at Q1 kk hkq] at h1 h2; omega
            obtain ⟨hyb0, hyb1⟩ := hyb
            have HC := Lib.hid (fun w h h2 => BoardO.s_move_space X3 n3 L1 (some ⟨qb, 0, none⟩) m3 Q1 kk (Q1[kk] / 2) w (by have := HLL1.out; omega) (by have := HQL1.out; omega) hk2 hkq (M.mem_bd HB1.out.1) (M.mem_bd HB1.out.2.1) (by omega) h h2)
            rw [(M.pl2_sets (n := cnt + x / 5) hk2 hkq).1, (M.pl2_sets (n := cnt + x / 5) hk2 hkq).2] at HC
            have HB2 := Lib.hid (M.plBd_two (n := cnt + x / 5) HB1.out.1 HB1.out.2.1 HB1.out.2.2.1 HB1.out.2.2.2.1 HB1.out.2.2.2.2 hk2 hkq)
            have HS2 : Hid (M.pl2 (L1, Q1, cnt + x / 5) kk = (L1.set (kk + 1) (L1.getD (kk + 1) 0 + Q1.getD kk 0 / 2), Q1.set kk (Q1.getD kk 0 % 2), cnt + x / 5 + Q1.getD kk 0 / 2)) := Lib.hid rfl
            have HN2 : Hid ((M.pl2 (L1, Q1, cnt + x / 5) kk).2.2 = cnt + x / 5 + Q1[kk] / 2) := Lib.hid (by rw [HS2.out, M.getD_at Q1 kk hkq])
            have HLL2 : Hid ((M.pl2 (L1, Q1, cnt + x / 5) kk).1.length = l.length) := Lib.hid (by rw [HS2.out, List.length_set]; exact HLL1.out)
            have HQL2 : Hid ((M.pl2 (L1, Q1, cnt + x / 5) kk).2.1.length = l.length) := Lib.hid (by rw [HS2.out, List.length_set]; exact HQL1.out)
            have HO2 : Hid (M.pl2o l.length (L1, Q1, cnt + x / 5) kk = if M.plOk (M.pl2 (L1, Q1, cnt + x / 5) kk) = true then some (M.pl2 (L1, Q1, cnt + x / 5) kk) else none) := Lib.hid (by unfold M.pl2o; rw [if_neg hkm])
            clear HS2 HB1
            obtain ⟨y, hy⟩ : ∃ y, y = Q1[kk] := ⟨_, rfl⟩
            rw [← hy] at HC HN2 cY hyb0 hyb1
            clear hy
            generalize M.pl2o l.length (L1, Q1, cnt + x / 5) kk = O2 at *
            generalize M.pl2 (L1, Q1, cnt + x / 5) kk = S at *
            obtain ⟨L2, Q2, c2⟩ := S
            dsimp only at *
            have hc2e := HN2.out
            subst hc2e
            have wq2 : IntKind.i64.wrap (y / 2) = y / 2 := IntWalk.i64_in _ (by omega)
            have ws2 : IntKind.i64.wrap (cnt + x / 5 + y / 2) = cnt + x / 5 + y / 2 := IntWalk.i64_in _ (by omega)
            go_wp2_with fail
            refine (HC.out _ HPX.out.row1.rd HPX.out.row2.rd).mono ?_
            rintro e w6 ⟨X4, n4, Y4, m4, rfl, q4, v4, ap4, b4'⟩
            obtain ⟨e0, e1, e2, e3, eg⟩ := (HPX.out.below b4').box.c2
            have HP4 := Lib.hid ((HPX.out.below b4').put (by have := HPX.out.box.1.1; exact this) q4 v4 ap4)
            clear q4 v4 ap4 b4' HC
            go_upto_region 14 with fail
            obtain ⟨W2, hW⟩ : ∃ X, X = (w6.setCell ⟨g, 0, none⟩ (.slice X4 L2.length n4)).setCell ⟨g, 1, none⟩ (.slice Y4 Q2.length m4) := ⟨_, rfl⟩
            rw [← hW] at HP4 ⊢
            clear hW HPX cY fY e0 e1 e2 e3 eg
            clear b0 b1 b2 b3 bg x0 x1 xg
            obtain ⟨b0, b1, b2, b3, bg⟩ := HP4.out.box.c2
            obtain ⟨x0, x1⟩ := HP4.out.par.c2
            have xg := HP4.out.par.1
            have HG := Lib.hid (fun w h h2 => BoardF.s_good X4 n4 L2 Y4 m4 Q2 w (by have := HLL2.out; omega) (by have := HQL2.out; omega) h h2)
            cases hg2 : M.bOk L2 Q2 with
            | false =>
              rw [hg2] at HG
              have HR2 := Lib.hid (show R0 = none by rw [← HR.out, HO2.out, if_neg (by show ¬ (M.bOk L2 Q2 = true); rw [hg2]; simp), M.plFrom_none])
              clear hg2
              go_wp2_with fail
              refine (HG.out _ HP4.out.row1.rd HP4.out.row2.rd).mono ?_
              rintro e w7 ⟨rfl, b7⟩
              clear b0 b1 b2 b3 bg x0 x1 xg
              have HP5 := Lib.hid (HP4.out.below b7)
              clear b7 HP4
              go_wp2_with fail
              go_roundw
              case rel => exact ⟨kk + 1, X4, n4, L2, Y4, m4, Q2, cnt + x / 5 + y / 2, false, by omega, by go_num, rfl, rfl, ⟨by omega, by omega⟩, HLL2, HQL2, HB2, Lib.hid (.inr ⟨rfl, HR2.out⟩), HP5⟩
              case measure => simp [intOf]; omega
            | true =>
              rw [hg2] at HG
              have HR2 := Lib.hid (show M.plFrom l.length (some (L2, Q2, cnt + x / 5 + y / 2)) (l.length - (kk + 1)) (kk + 1) = R0 by rw [← HR.out, HO2.out, if_pos (show M.plOk (L2, Q2, cnt + x / 5 + y / 2) = true from hg2)])
              have HOK2 := Lib.hid (show M.plOk (L2, Q2, cnt + x / 5 + y / 2) = true from hg2)
              clear hg2
              go_wp2_with fail
              refine (HG.out _ HP4.out.row1.rd HP4.out.row2.rd).mono ?_
              rintro e w7 ⟨rfl, b7⟩
              clear b0 b1 b2 b3 bg x0 x1 xg
              have HP5 := Lib.hid (HP4.out.below b7)
              clear b7 HP4
              go_wp2_with fail
              go_roundw
              case rel => exact ⟨kk + 1, X4, n4, L2, Y4, m4, Q2, cnt + x / 5 + y / 2, true, by omega, by go_num, rfl, rfl, ⟨by omega, by omega⟩, HLL2, HQL2, HB2, Lib.hid (.inl ⟨rfl, HR2.out, HOK2.out⟩), HP5⟩
              case measure => simp [intOf]; omega
end Go.Proofs.Ytmgegacgjppdbaa.BoardP
