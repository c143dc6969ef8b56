/-
  Walks: the part of an amount (printed by gen_partof.py).
-/
import Derived.Test.YtfgnmjnlhnpmoaaProper
import Derived.Test.YtfgnmjnlhnpmoaaMeasM
import Derived.Deep.DeepCutAuto
import Derived.Deep.RegionHeld3
set_option linter.unusedVariables false
namespace Go.Proofs.Ytfgnmjnlhnpmoaa.PartOf
open Go.RowKit
def RetPart (w : World) (R S : List Int) (b : Bool) (e : Ending) (w' : World) : Prop := ∃ (X : Option Addr) (m : Nat) (Y : Option Addr) (m2 : Nat), e = .returned (.tuple #[.agg #[.slice X R.length m], .agg #[.slice Y S.length m2], .bool b]) ∧ K.Rd w' 1 X R.length (R.map (Value.int .i64)) ∧ K.Rd w' 1 Y S.length (S.map (Value.int .i64)) ∧ Below w.heap.size w w'
set_option maxHeartbeats 2000000 in
theorem i_part (A : Option Addr) (c : Nat) (l : List M.Unit) (B : Option Addr) (d : Nat) (k : List Int) (n : Int) (w : World) (hl : l.length ≤ 1048576) (hs : ∀ u ∈ l, u.name.size ≤ 9223372036854775807) (hc : l.length ≤ c) (hcc : c ≤ 9223372036854775807) (ha : K.Rd w 2 A l.length (l.flatMap M.unitCells)) (hk : k.length ≤ 1048576) (hb : K.Rd w 1 B k.length (k.map (Value.int .i64))) :
    Calls Try.prog 51 #[.slice A l.length c, .agg #[.slice B k.length d], .int .i64 n] w (RetPart w (M.partOf l k n).1.1 (M.partOf l k n).1.2 (M.partOf l k n).2) := by
  obtain ⟨o0, ho0⟩ : ∃ o : Obj, o = .cells #[.slice B k.length d] 40 := ⟨_, rfl⟩
  obtain ⟨o1, ho1⟩ : ∃ o : Obj, o = .cells #[.slice none 0 0] 40 := ⟨_, rfl⟩
  obtain ⟨o2, ho2⟩ : ∃ o : Obj, o = .cells #[.slice none 0 0] 40 := ⟨_, rfl⟩
  have r : K.Rd (((w.alloc o0).alloc o1).alloc o2) 2 A l.length (l.flatMap M.unitCells) := by (repeat (first | with_reducible assumption | (with_reducible refine K.Rd.alloc ?_ _) | (with_reducible refine K.Rd.drew ?_) | (with_reducible refine K.Rd.below ?_ (by with_reducible assumption))))
  have t : K.Rd (((w.alloc o0).alloc o1).alloc o2) 1 B k.length (k.map (Value.int .i64)) := by (repeat (first | with_reducible assumption | (with_reducible refine K.Rd.alloc ?_ _) | (with_reducible refine K.Rd.drew ?_) | (with_reducible refine K.Rd.below ?_ (by with_reducible assumption))))
  have x : K.Box (w.alloc o0) (w.heap.size) [.slice B k.length d] := by have h := K.Box.new w #[.slice B k.length d] 40; rw [ho0]; exact h
  replace x := (x.alloc o1).alloc o2
  have y : K.Own ((w.alloc o0).alloc o1) (w.heap.size + 1) [.slice none 0 0] := by have h := K.Own.new (w.alloc o0) #[.slice none 0 0] 40; rw [World.size_alloc] at h; rw [ho1]; exact h
  replace y := y.alloc o2
  have z : K.Own (((w.alloc o0).alloc o1).alloc o2) (w.heap.size + 1 + 1) [.slice none 0 0] := by have h := K.Own.new ((w.alloc o0).alloc o1) #[.slice none 0 0] 40; rw [World.size_alloc, World.size_alloc] at h; rw [ho2]; exact h
  have bb : Below w.heap.size w (((w.alloc o0).alloc o1).alloc o2) := by (repeat (first | exact Below.refl _ _ | assumption | (refine K.below_drewN ?_ _) | (refine Below.drew ?_) | (refine Below.alloc ?_ (by first | (simp; done) | (simp; omega) | omega) _) | (refine Below.setCell ?_ (by first | (simp; done) | (simp; omega) | omega) _)))
  subst ho0 ho1 ho2
  have HS0 := Lib.hid (fun w h h' => AmountF.i_amount A c l B d k w hl hk hs hc hcc h h')
  cases hok0 : M.amtOk l k with
  | false =>
    rw [M.partOf_no (fun h => by have h := h.1; rw [hok0] at h; cases h)]
    rw [hok0] at HS0
    clear hok0
    go_enter Try.func51, Try.ntmps51
    have px := x.c1
    have gx := x.1
    have py := y.c1.2.2
    have pz := z.c1.2.2
    go_wp2_with fail
    refine (HS0.out _ r t).mono ?_
    rintro e w1 ⟨rfl, b1⟩
    clear px gx py pz
    replace r := r.below b1
    replace t := t.below b1
    replace x := x.below b1
    replace y := y.below b1
    replace z := z.below b1
    replace bb := bb.trans (b1.mono bb.size)
    clear b1
    obtain ⟨y1, y2, y3⟩ := y.c1
    obtain ⟨z1, z2, z3⟩ := z.c1
    clear x
    have hyz : ¬ (w.heap.size + 1 = w.heap.size + 1 + 1) := by omega
    go_wp2_with fail
    exact bodyPost_ret (v := .tuple #[.agg #[.slice none 0 0], .agg #[.slice none 0 0], .bool false]) (by simp [results, Try.results51, go_sem, *]) rfl ⟨none, 0, none, 0, rfl, K.Rd.nil _ _ _, K.Rd.nil _ _ _, by (repeat (first | exact Below.refl _ _ | assumption | (refine K.below_drewN ?_ _) | (refine Below.drew ?_) | (refine Below.alloc ?_ (by first | (simp; done) | (simp; omega) | omega) _) | (refine Below.setCell ?_ (by first | (simp; done) | (simp; omega) | omega) _)))⟩
  | true =>
    rw [hok0] at HS0
    by_cases hn1 : 1 ≤ n ∧ n ≤ 1000
    case' neg =>
      rw [M.partOf_no (fun h => by have := M.inR_iff.1 (h.2.1); omega)]
      go_enter Try.func51, Try.ntmps51
      have px := x.c1
      have gx := x.1
      have py := y.c1.2.2
      have pz := z.c1.2.2
      go_wp2_with fail
      refine (HS0.out _ r t).mono ?_
      rintro e w1 ⟨rfl, b1⟩
      clear px gx py pz
      replace r := r.below b1
      replace t := t.below b1
      replace x := x.below b1
      replace y := y.below b1
      replace z := z.below b1
      replace bb := bb.trans (b1.mono bb.size)
      clear b1
      have px := x.c1
      have gx := x.1
      have py := y.c1.2.2
      have pz := z.c1.2.2
      go_wp2_with fail
      refine (Base.i_within_no _ _ _ _ (by omega)).mono ?_
      rintro e w2 ⟨rfl, rfl⟩
      clear px gx py pz
      obtain ⟨y1, y2, y3⟩ := y.c1
      obtain ⟨z1, z2, z3⟩ := z.c1
      clear x
      have hyz : ¬ (w.heap.size + 1 = w.heap.size + 1 + 1) := by omega
      go_wp2_with fail
      exact bodyPost_ret (v := .tuple #[.agg #[.slice none 0 0], .agg #[.slice none 0 0], .bool false]) (by simp [results, Try.results51, go_sem, *]) rfl ⟨none, 0, none, 0, rfl, K.Rd.nil _ _ _, K.Rd.nil _ _ _, by (repeat (first | exact Below.refl _ _ | assumption | (refine K.below_drewN ?_ _) | (refine Below.drew ?_) | (refine Below.alloc ?_ (by first | (simp; done) | (simp; omega) | omega) _) | (refine Below.setCell ?_ (by first | (simp; done) | (simp; omega) | omega) _)))⟩
    case' pos =>
      obtain ⟨hn1a, hn1b⟩ := hn1
      have hsys := ((M.amtOk_iff l k).1 hok0).1
      have v1 := M.aV_total hok0
      have HV := Lib.hid (fun w h h' => Val.i_val A c l B d k w hok0 h h')
      have HY := Lib.hid (fun h1 h2 => M.partOf_yes (l := l) (a := k) (n := n) ⟨hok0, M.inR_yes hn1a hn1b, h1, h2⟩)
      have HN := Lib.hid (fun (h : ¬ ((M.proper l (M.aV l k / n)).2 = true ∧ (M.proper l (M.aV l k % n)).2 = true)) => M.partOf_no (l := l) (a := k) (n := n) (fun g => h g.2.2))
      generalize M.partOf l k n = Q at *
      generalize M.aV l k = a at *
      obtain ⟨v1a, v1b⟩ := v1
      have q1 : a.tdiv n = a / n := Int.tdiv_eq_ediv_of_nonneg v1a
      have q2 : a.tmod n = a % n := Int.tmod_eq_emod_of_nonneg v1a
      have d1 : 0 ≤ a / n := Int.ediv_nonneg v1a (by omega)
      have d2 : a / n ≤ a := Int.ediv_le_self n v1a
      have d3 : 0 ≤ a % n := Int.emod_nonneg a (by omega)
      have d4 : a % n ≤ 1000 := by have := Int.emod_lt_of_pos a (show 0 < n by omega); omega
      have u0 : IntKind.i64.wrap (a / n) = a / n := IntWalk.i64_in _ (by omega)
      have u1 : IntKind.i64.wrap (a % n) = a % n := IntWalk.i64_in _ (by omega)
      have nz : ¬ n = 0 := by omega
      have HP := Lib.hid (fun w h => Proper.i_proper A c l (a / n) w hsys (by omega) h)
      have HR := Lib.hid (fun w h => Proper.i_proper A c l (a % n) w hsys (by omega) h)
      generalize M.proper l (a / n) = R at *
      generalize M.proper l (a % n) = S at *
      obtain ⟨R, one⟩ := R
      obtain ⟨S, two⟩ := S
      dsimp only at *
      clear hok0 hsys
      go_enter Try.func51, Try.ntmps51
      have px := x.c1
      have gx := x.1
      have py := y.c1.2.2
      have pz := z.c1.2.2
      go_wp2_with fail
      refine (HS0.out _ r t).mono ?_
      rintro e w1 ⟨rfl, b1⟩
      clear px gx py pz
      replace r := r.below b1
      replace t := t.below b1
      replace x := x.below b1
      replace y := y.below b1
      replace z := z.below b1
      replace bb := bb.trans (b1.mono bb.size)
      clear b1
      have px := x.c1
      have gx := x.1
      have py := y.c1.2.2
      have pz := z.c1.2.2
      go_wp2_with fail
      refine (Base.i_within_yes _ _ _ _ (by omega) (by omega)).mono ?_
      rintro e w2 ⟨rfl, rfl⟩
      clear px gx py pz
      have px := x.c1
      have gx := x.1
      have py := y.c1.2.2
      have pz := z.c1.2.2
      go_wp2_with fail
      refine (HV.out _ r t).mono ?_
      rintro e w3 ⟨rfl, b3⟩
      clear px gx py pz
      replace r := r.below b3
      replace t := t.below b3
      replace x := x.below b3
      replace y := y.below b3
      replace z := z.below b3
      replace bb := bb.trans (b3.mono bb.size)
      clear b3
      have px := x.c1
      have gx := x.1
      have py := y.c1.2.2
      have pz := z.c1.2.2
      go_wp2_with fail
      refine (HP.out _ r).mono ?_
      rintro e w4 ⟨X, m, rfl, row, b4⟩
      clear px gx py pz
      have HPl := Lib.hid (fun q hq => show q ≠ w.heap.size + 1 ∧ q ≠ w.heap.size + 1 + 1 by have := row.lt q hq; have := z.1.1; omega)
      have P := row.rd
      clear row
      replace r := r.below b4
      replace t := t.below b4
      replace x := x.below b4
      replace y := y.below b4
      replace z := z.below b4
      replace bb := bb.trans (b4.mono bb.size)
      clear b4
      have sz4 := bb.size
      have sy4 := y.1.1
      have sz4b := z.1.1
      obtain ⟨ob4, ho⟩ : ∃ o : Obj, o = .cells #[.slice X R.length m] 40 := ⟨_, rfl⟩
      have p : K.Box (w4.alloc ob4) w4.heap.size [.slice X R.length m] := by rw [ho]; exact K.Box.new _ _ _
      replace r := r.alloc ob4
      replace t := t.alloc ob4
      replace x := x.alloc ob4
      replace y := y.alloc ob4
      replace z := z.alloc ob4
      replace P := P.alloc ob4
      replace bb := bb.alloc bb.size ob4
      subst ho
      have px := x.c1
      have gx := x.1
      have py := y.c1.2.2
      have pz := z.c1.2.2
      have pp := p.c1
      have gp := p.1
      go_wp2_with fail
      refine (HR.out _ r).mono ?_
      rintro e w5 ⟨Y, m2, rfl, row, b5⟩
      clear pp gp
      have sb5 := b5.size
      simp only [World.size_alloc] at sb5
      clear px gx py pz
      have HQl := Lib.hid (fun q hq => show q ≠ w.heap.size + 1 ∧ q ≠ w.heap.size + 1 + 1 by have := row.lt q hq; have := z.1.1; omega)
      have P2 := row.rd
      clear row
      replace r := r.below b5
      replace t := t.below b5
      replace x := x.below b5
      replace y := y.below b5
      replace z := z.below b5
      replace P := P.below b5
      replace p := p.below b5
      replace bb := bb.trans (b5.mono bb.size)
      clear b5
      obtain ⟨ob5, ho⟩ : ∃ o : Obj, o = .cells #[.slice Y S.length m2] 40 := ⟨_, rfl⟩
      have q : K.Box (w5.alloc ob5) w5.heap.size [.slice Y S.length m2] := by rw [ho]; exact K.Box.new _ _ _
      replace r := r.alloc ob5
      replace t := t.alloc ob5
      replace x := x.alloc ob5
      replace y := y.alloc ob5
      replace z := z.alloc ob5
      replace P := P.alloc ob5
      replace p := p.alloc ob5
      replace P2 := P2.alloc ob5
      replace bb := bb.alloc bb.size ob5
      subst ho
      have hyz : ¬ (w.heap.size + 1 = w.heap.size + 1 + 1) := by omega
      have hzy : ¬ (w.heap.size + 1 + 1 = w.heap.size + 1) := by omega
      have hy4 : ¬ (w.heap.size + 1 = w4.heap.size) := by omega
      have hz4 : ¬ (w.heap.size + 1 + 1 = w4.heap.size) := by omega
      have hy5 : ¬ (w.heap.size + 1 = w5.heap.size) := by omega
      have hz5 : ¬ (w.heap.size + 1 + 1 = w5.heap.size) := by omega
      cases one with
      | false =>
        obtain rfl := HN.out (by simp)
        dsimp only
        obtain ⟨y1, y2, y3⟩ := y.c1
        obtain ⟨z1, z2, z3⟩ := z.c1
        clear p q x
        go_wp2_with fail
        exact bodyPost_ret (v := .tuple #[.agg #[.slice none 0 0], .agg #[.slice none 0 0], .bool false]) (by simp [results, Try.results51, go_sem, *]) rfl ⟨none, 0, none, 0, rfl, K.Rd.nil _ _ _, K.Rd.nil _ _ _, by (repeat (first | exact Below.refl _ _ | assumption | (refine K.below_drewN ?_ _) | (refine Below.drew ?_) | (refine Below.alloc ?_ (by first | (simp; done) | (simp; omega) | omega) _) | (refine Below.setCell ?_ (by first | (simp; done) | (simp; omega) | omega) _)))⟩
      | true =>
        cases two with
        | false =>
          obtain rfl := HN.out (by simp)
          dsimp only
          obtain ⟨y1, y2, y3⟩ := y.c1
          obtain ⟨z1, z2, z3⟩ := z.c1
          clear p q x
          go_wp2_with fail
          exact bodyPost_ret (v := .tuple #[.agg #[.slice none 0 0], .agg #[.slice none 0 0], .bool false]) (by simp [results, Try.results51, go_sem, *]) rfl ⟨none, 0, none, 0, rfl, K.Rd.nil _ _ _, K.Rd.nil _ _ _, by (repeat (first | exact Below.refl _ _ | assumption | (refine K.below_drewN ?_ _) | (refine Below.drew ?_) | (refine Below.alloc ?_ (by first | (simp; done) | (simp; omega) | omega) _) | (refine Below.setCell ?_ (by first | (simp; done) | (simp; omega) | omega) _)))⟩
        | true =>
          obtain rfl := HY.out rfl rfl
          dsimp only
          clear HN
          go_upto_region 8 with fail
          obtain ⟨V, hV⟩ : ∃ X, X = World.drew (w5.alloc (.cells #[.slice Y S.length m2] 40)) := ⟨_, rfl⟩
          replace y : K.Own V (w.heap.size + 1) [.slice none 0 0] := by rw [hV]; exact y.drew
          replace z : K.Own V (w.heap.size + 1 + 1) [.slice none 0 0] := by rw [hV]; exact z.drew
          replace p : K.Box V w4.heap.size [.slice X R.length m] := by rw [hV]; exact p.drew
          replace q : K.Box V w5.heap.size [.slice Y S.length m2] := by rw [hV]; exact q.drew
          replace P : K.Rd V 1 X R.length (R.map (Value.int .i64)) := by rw [hV]; exact P.drewN 1
          replace P2 : K.Rd V 1 Y S.length (S.map (Value.int .i64)) := by rw [hV]; exact P2.drewN 1
          replace bb : Below w.heap.size w V := by rw [hV]; exact bb.drew
          have hPl : ∀ q, K.blk X = some q → q ≠ w.heap.size + 1 ∧ q ≠ w.heap.size + 1 + 1 := HPl.out
          have hQl : ∀ q, K.blk Y = some q → q ≠ w.heap.size + 1 ∧ q ≠ w.heap.size + 1 + 1 := HQl.out
          obtain ⟨y1, y2, y3⟩ := y.c1
          obtain ⟨z1, z2, z3⟩ := z.c1
          refine wp_region_held_drew (S := fun w' => w'.cell? ⟨w4.heap.size, 0, none⟩ = some (.slice X R.length m) ∧ w'.cell? ⟨w5.heap.size, 0, none⟩ = some (.slice Y S.length m2)) (by kernel_rfl) (by rw [← hV]; exact ⟨p.c1, q.c1⟩) (fun hHeld => ?_)
          rw [← hV] at hHeld ⊢
          clear hV
          refine K.takeL 0 (v := ?_) rfl (by kernel_rfl) (by kernel_rfl) (by kernel_rfl) (fun _ _ _ h => h) (Or.inl ⟨rfl, ?_⟩) (by assumption) ?_
          rotate_left
          · intro w hSw; (try dsimp only at hSw); first | (go_simp; done) | (go_simp; with_reducible rfl)
          simp only [Act.put, List.setIfInBounds_toArray, List.set_cons_zero, List.set_cons_succ]
          refine K.takeL 1 (v := ?_) rfl (by kernel_rfl) (by kernel_rfl) (by kernel_rfl) (fun _ _ _ h => h) (Or.inl ⟨rfl, ?_⟩) (by assumption) ?_
          rotate_left
          · intro w hSw; (try dsimp only at hSw); first | (go_simp; done) | (go_simp; with_reducible rfl)
          simp only [Act.put, List.setIfInBounds_toArray, List.set_cons_zero, List.set_cons_succ]
          refine K.consL 2 rfl (by kernel_rfl) (fun KK hK => ?_)
          go_simp
          have ys := y.set1 (.slice X R.length m)
          have zs := z.setOther (p := ⟨w.heap.size + 1, 0, none⟩) (by first | (simp; done) | (simp; omega)) (.slice X R.length m)
          have ps := p.setOther (p := ⟨w.heap.size + 1, 0, none⟩) (by first | (simp; done) | (simp; omega)) (.slice X R.length m)
          have qs := q.setOther (p := ⟨w.heap.size + 1, 0, none⟩) (by first | (simp; done) | (simp; omega)) (.slice X R.length m)
          have bs := bb.setCell (p := ⟨w.heap.size + 1, 0, none⟩) (by first | (simp; done) | (simp; omega)) (.slice X R.length m)
          have Ps := P.setOther (p := ⟨w.heap.size + 1, 0, none⟩) (fun q hq e => by have := hPl q hq; simp at e; omega) (.slice X R.length m)
          have Qs := P2.setOther (p := ⟨w.heap.size + 1, 0, none⟩) (fun q hq e => by have := hQl q hq; simp at e; omega) (.slice X R.length m)
          clear y z p q bb P P2 y1 y2 y3 z1 z2 z3
          have y := ys
          have z := zs
          have p := ps
          have q := qs
          have bb := bs
          have P := Ps
          have P2 := Qs
          clear ys zs ps qs bs Ps Qs
          obtain ⟨y1, y2, y3⟩ := y.c1
          obtain ⟨z1, z2, z3⟩ := z.c1
          refine hK.out _ _ ⟨p.c1, q.c1⟩ (fun hHeld => ?_)
          clear hK KK
          try simp only [Act.put, List.setIfInBounds_toArray, List.set_cons_zero, List.set_cons_succ]
          refine K.consL 3 rfl (by kernel_rfl) (fun KK hK => ?_)
          go_simp
          have zs := z.set1 (.slice Y S.length m2)
          have ys := y.setOther (p := ⟨w.heap.size + 1 + 1, 0, none⟩) (by first | (simp; done) | (simp; omega)) (.slice Y S.length m2)
          have ps := p.setOther (p := ⟨w.heap.size + 1 + 1, 0, none⟩) (by first | (simp; done) | (simp; omega)) (.slice Y S.length m2)
          have qs := q.setOther (p := ⟨w.heap.size + 1 + 1, 0, none⟩) (by first | (simp; done) | (simp; omega)) (.slice Y S.length m2)
          have bs := bb.setCell (p := ⟨w.heap.size + 1 + 1, 0, none⟩) (by first | (simp; done) | (simp; omega)) (.slice Y S.length m2)
          have Ps := P.setOther (p := ⟨w.heap.size + 1 + 1, 0, none⟩) (fun q hq e => by have := hPl q hq; simp at e; omega) (.slice Y S.length m2)
          have Qs := P2.setOther (p := ⟨w.heap.size + 1 + 1, 0, none⟩) (fun q hq e => by have := hQl q hq; simp at e; omega) (.slice Y S.length m2)
          clear y z p q bb P P2 y1 y2 y3 z1 z2 z3
          have y := ys
          have z := zs
          have p := ps
          have q := qs
          have bb := bs
          have P := Ps
          have P2 := Qs
          clear ys zs ps qs bs Ps Qs
          obtain ⟨y1, y2, y3⟩ := y.c1
          obtain ⟨z1, z2, z3⟩ := z.c1
          refine hK.out _ _ ⟨p.c1, q.c1⟩ (fun hHeld => ?_)
          clear hK KK
          try simp only [Act.put, List.setIfInBounds_toArray, List.set_cons_zero, List.set_cons_succ]
          refine K.takeL 4 (v := ?_) rfl (by kernel_rfl) (by kernel_rfl) (by kernel_rfl) (fun _ _ _ h => h) (Or.inl ⟨rfl, ?_⟩) (by assumption) ?_
          rotate_left
          · intro w hSw; (try dsimp only at hSw); first | (go_simp; done) | (go_simp; with_reducible rfl)
          simp only [Act.put, List.setIfInBounds_toArray, List.set_cons_zero, List.set_cons_succ]
          refine wpAnyH_done (by kernel_rfl) ?_ _
          go_wp2_with fail
          exact bodyPost_ret (v := .tuple #[.agg #[.slice X R.length m], .agg #[.slice Y S.length m2], .bool true]) (by simp [results, Try.results51, go_sem, y1, z1]) rfl ⟨X, m, Y, m2, rfl, P, P2, bb⟩
set_option maxHeartbeats 2000000 in
theorem s_part (A : Option Addr) (c : Nat) (l : List M.Unit) (B : Option Addr) (d : Nat) (k : List Int) (n : Int) (w : World) (hl : l.length ≤ 1048576) (hs : ∀ u ∈ l, u.name.size ≤ 9223372036854775807) (hc : l.length ≤ c) (hcc : c ≤ 9223372036854775807) (ha : K.Rd w 2 A l.length (l.flatMap M.unitCells)) (hk : k.length ≤ 1048576) (hb : K.Rd w 1 B k.length (k.map (Value.int .i64))) :
    Calls Try.prog 52 #[.slice A l.length c, .agg #[.slice B k.length d], .int .i64 n] w (RetPart w (M.partOf l k n).1.1 (M.partOf l k n).1.2 (M.partOf l k n).2) := by
  obtain ⟨o0, ho0⟩ : ∃ o : Obj, o = .cells #[.slice B k.length d] 40 := ⟨_, rfl⟩
  obtain ⟨o1, ho1⟩ : ∃ o : Obj, o = .cells #[.slice none 0 0] 40 := ⟨_, rfl⟩
  obtain ⟨o2, ho2⟩ : ∃ o : Obj, o = .cells #[.slice none 0 0] 40 := ⟨_, rfl⟩
  have r : K.Rd (((w.alloc o0).alloc o1).alloc o2) 2 A l.length (l.flatMap M.unitCells) := by (repeat (first | with_reducible assumption | (with_reducible refine K.Rd.alloc ?_ _) | (with_reducible refine K.Rd.drew ?_) | (with_reducible refine K.Rd.below ?_ (by with_reducible assumption))))
  have t : K.Rd (((w.alloc o0).alloc o1).alloc o2) 1 B k.length (k.map (Value.int .i64)) := by (repeat (first | with_reducible assumption | (with_reducible refine K.Rd.alloc ?_ _) | (with_reducible refine K.Rd.drew ?_) | (with_reducible refine K.Rd.below ?_ (by with_reducible assumption))))
  have x : K.Box (w.alloc o0) (w.heap.size) [.slice B k.length d] := by have h := K.Box.new w #[.slice B k.length d] 40; rw [ho0]; exact h
  replace x := (x.alloc o1).alloc o2
  have y : K.Own ((w.alloc o0).alloc o1) (w.heap.size + 1) [.slice none 0 0] := by have h := K.Own.new (w.alloc o0) #[.slice none 0 0] 40; rw [World.size_alloc] at h; rw [ho1]; exact h
  replace y := y.alloc o2
  have z : K.Own (((w.alloc o0).alloc o1).alloc o2) (w.heap.size + 1 + 1) [.slice none 0 0] := by have h := K.Own.new ((w.alloc o0).alloc o1) #[.slice none 0 0] 40; rw [World.size_alloc, World.size_alloc] at h; rw [ho2]; exact h
  have bb : Below w.heap.size w (((w.alloc o0).alloc o1).alloc o2) := by (repeat (first | exact Below.refl _ _ | assumption | (refine K.below_drewN ?_ _) | (refine Below.drew ?_) | (refine Below.alloc ?_ (by first | (simp; done) | (simp; omega) | omega) _) | (refine Below.setCell ?_ (by first | (simp; done) | (simp; omega) | omega) _)))
  subst ho0 ho1 ho2
  have HS0 := Lib.hid (fun w h h' => AmountF.s_amt A c l B d k w hl hk hs hc hcc h h')
  cases hok0 : M.amtOk l k with
  | false =>
    rw [M.partOf_no (fun h => by have h := h.1; rw [hok0] at h; cases h)]
    rw [hok0] at HS0
    clear hok0
    go_enter Try.func52, Try.ntmps52
    have px := x.c1
    have gx := x.1
    have py := y.c1.2.2
    have pz := z.c1.2.2
    go_wp2_with fail
    refine (HS0.out _ r t).mono ?_
    rintro e w1 ⟨rfl, b1⟩
    clear px gx py pz
    replace r := r.below b1
    replace t := t.below b1
    replace x := x.below b1
    replace y := y.below b1
    replace z := z.below b1
    replace bb := bb.trans (b1.mono bb.size)
    clear b1
    obtain ⟨y1, y2, y3⟩ := y.c1
    obtain ⟨z1, z2, z3⟩ := z.c1
    clear x
    have hyz : ¬ (w.heap.size + 1 = w.heap.size + 1 + 1) := by omega
    go_wp2_with fail
    exact bodyPost_ret (v := .tuple #[.agg #[.slice none 0 0], .agg #[.slice none 0 0], .bool false]) (by simp [results, Try.results52, go_sem, *]) rfl ⟨none, 0, none, 0, rfl, K.Rd.nil _ _ _, K.Rd.nil _ _ _, by (repeat (first | exact Below.refl _ _ | assumption | (refine K.below_drewN ?_ _) | (refine Below.drew ?_) | (refine Below.alloc ?_ (by first | (simp; done) | (simp; omega) | omega) _) | (refine Below.setCell ?_ (by first | (simp; done) | (simp; omega) | omega) _)))⟩
  | true =>
    rw [hok0] at HS0
    by_cases hn1 : 1 ≤ n ∧ n ≤ 1000
    case' neg =>
      rw [M.partOf_no (fun h => by have := M.inR_iff.1 (h.2.1); omega)]
      go_enter Try.func52, Try.ntmps52
      have px := x.c1
      have gx := x.1
      have py := y.c1.2.2
      have pz := z.c1.2.2
      go_wp2_with fail
      refine (HS0.out _ r t).mono ?_
      rintro e w1 ⟨rfl, b1⟩
      clear px gx py pz
      replace r := r.below b1
      replace t := t.below b1
      replace x := x.below b1
      replace y := y.below b1
      replace z := z.below b1
      replace bb := bb.trans (b1.mono bb.size)
      clear b1
      have px := x.c1
      have gx := x.1
      have py := y.c1.2.2
      have pz := z.c1.2.2
      go_wp2_with fail
      refine (Base.s_in_no _ _ _ _ (by omega)).mono ?_
      rintro e w2 ⟨rfl, rfl⟩
      clear px gx py pz
      obtain ⟨y1, y2, y3⟩ := y.c1
      obtain ⟨z1, z2, z3⟩ := z.c1
      clear x
      have hyz : ¬ (w.heap.size + 1 = w.heap.size + 1 + 1) := by omega
      go_wp2_with fail
      exact bodyPost_ret (v := .tuple #[.agg #[.slice none 0 0], .agg #[.slice none 0 0], .bool false]) (by simp [results, Try.results52, go_sem, *]) rfl ⟨none, 0, none, 0, rfl, K.Rd.nil _ _ _, K.Rd.nil _ _ _, by (repeat (first | exact Below.refl _ _ | assumption | (refine K.below_drewN ?_ _) | (refine Below.drew ?_) | (refine Below.alloc ?_ (by first | (simp; done) | (simp; omega) | omega) _) | (refine Below.setCell ?_ (by first | (simp; done) | (simp; omega) | omega) _)))⟩
    case' pos =>
      obtain ⟨hn1a, hn1b⟩ := hn1
      have hsys := ((M.amtOk_iff l k).1 hok0).1
      have v1 := M.aV_total hok0
      have HV := Lib.hid (fun w h h' => Val.s_val A c l B d k w hok0 h h')
      have HY := Lib.hid (fun h1 h2 => M.partOf_yes (l := l) (a := k) (n := n) ⟨hok0, M.inR_yes hn1a hn1b, h1, h2⟩)
      have HN := Lib.hid (fun (h : ¬ ((M.proper l (M.aV l k / n)).2 = true ∧ (M.proper l (M.aV l k % n)).2 = true)) => M.partOf_no (l := l) (a := k) (n := n) (fun g => h g.2.2))
      generalize M.partOf l k n = Q at *
      generalize M.aV l k = a at *
      obtain ⟨v1a, v1b⟩ := v1
      have q1 : a.tdiv n = a / n := Int.tdiv_eq_ediv_of_nonneg v1a
      have q2 : a.tmod n = a % n := Int.tmod_eq_emod_of_nonneg v1a
      have d1 : 0 ≤ a / n := Int.ediv_nonneg v1a (by omega)
      have d2 : a / n ≤ a := Int.ediv_le_self n v1a
      have d3 : 0 ≤ a % n := Int.emod_nonneg a (by omega)
      have d4 : a % n ≤ 1000 := by have := Int.emod_lt_of_pos a (show 0 < n by omega); omega
      have u0 : IntKind.i64.wrap (a / n) = a / n := IntWalk.i64_in _ (by omega)
      have u1 : IntKind.i64.wrap (a % n) = a % n := IntWalk.i64_in _ (by omega)
      have nz : ¬ n = 0 := by omega
      have HP := Lib.hid (fun w h => Proper.s_proper A c l (a / n) w hsys (by omega) hs hc hcc h)
      have HR := Lib.hid (fun w h => Proper.s_proper A c l (a % n) w hsys (by omega) hs hc hcc h)
      generalize M.proper l (a / n) = R at *
      generalize M.proper l (a % n) = S at *
      obtain ⟨R, one⟩ := R
      obtain ⟨S, two⟩ := S
      dsimp only at *
      clear hok0 hsys
      go_enter Try.func52, Try.ntmps52
      have px := x.c1
      have gx := x.1
      have py := y.c1.2.2
      have pz := z.c1.2.2
      go_wp2_with fail
      refine (HS0.out _ r t).mono ?_
      rintro e w1 ⟨rfl, b1⟩
      clear px gx py pz
      replace r := r.below b1
      replace t := t.below b1
      replace x := x.below b1
      replace y := y.below b1
      replace z := z.below b1
      replace bb := bb.trans (b1.mono bb.size)
      clear b1
      have px := x.c1
      have gx := x.1
      have py := y.c1.2.2
      have pz := z.c1.2.2
      go_wp2_with fail
      refine (Base.s_in_yes _ _ _ _ (by omega) (by omega)).mono ?_
      rintro e w2 ⟨rfl, rfl⟩
      clear px gx py pz
      have px := x.c1
      have gx := x.1
      have py := y.c1.2.2
      have pz := z.c1.2.2
      go_wp2_with fail
      refine (HV.out _ r t).mono ?_
      rintro e w3 ⟨rfl, b3⟩
      clear px gx py pz
      replace r := r.below b3
      replace t := t.below b3
      replace x := x.below b3
      replace y := y.below b3
      replace z := z.below b3
      replace bb := bb.trans (b3.mono bb.size)
      clear b3
      have px := x.c1
      have gx := x.1
      have py := y.c1.2.2
      have pz := z.c1.2.2
      go_wp2_with fail
      refine (HP.out _ r).mono ?_
      rintro e w4 ⟨X, m, rfl, row, b4⟩
      clear px gx py pz
      have HPl := Lib.hid (fun q hq => show q ≠ w.heap.size + 1 ∧ q ≠ w.heap.size + 1 + 1 by have := row.lt q hq; have := z.1.1; omega)
      have P := row.rd
      clear row
      replace r := r.below b4
      replace t := t.below b4
      replace x := x.below b4
      replace y := y.below b4
      replace z := z.below b4
      replace bb := bb.trans (b4.mono bb.size)
      clear b4
      have sz4 := bb.size
      have sy4 := y.1.1
      have sz4b := z.1.1
      obtain ⟨ob4, ho⟩ : ∃ o : Obj, o = .cells #[.slice X R.length m] 40 := ⟨_, rfl⟩
      have p : K.Box (w4.alloc ob4) w4.heap.size [.slice X R.length m] := by rw [ho]; exact K.Box.new _ _ _
      replace r := r.alloc ob4
      replace t := t.alloc ob4
      replace x := x.alloc ob4
      replace y := y.alloc ob4
      replace z := z.alloc ob4
      replace P := P.alloc ob4
      replace bb := bb.alloc bb.size ob4
      subst ho
      have px := x.c1
      have gx := x.1
      have py := y.c1.2.2
      have pz := z.c1.2.2
      have pp := p.c1
      have gp := p.1
      go_wp2_with fail
      refine (HR.out _ r).mono ?_
      rintro e w5 ⟨Y, m2, rfl, row, b5⟩
      clear pp gp
      have sb5 := b5.size
      simp only [World.size_alloc] at sb5
      clear px gx py pz
      have HQl := Lib.hid (fun q hq => show q ≠ w.heap.size + 1 ∧ q ≠ w.heap.size + 1 + 1 by have := row.lt q hq; have := z.1.1; omega)
      have P2 := row.rd
      clear row
      replace r := r.below b5
      replace t := t.below b5
      replace x := x.below b5
      replace y := y.below b5
      replace z := z.below b5
      replace P := P.below b5
      replace p := p.below b5
      replace bb := bb.trans (b5.mono bb.size)
      clear b5
      obtain ⟨ob5, ho⟩ : ∃ o : Obj, o = .cells #[.slice Y S.length m2] 40 := ⟨_, rfl⟩
      have q : K.Box (w5.alloc ob5) w5.heap.size [.slice Y S.length m2] := by rw [ho]; exact K.Box.new _ _ _
      replace r := r.alloc ob5
      replace t := t.alloc ob5
      replace x := x.alloc ob5
      replace y := y.alloc ob5
      replace z := z.alloc ob5
      replace P := P.alloc ob5
      replace p := p.alloc ob5
      replace P2 := P2.alloc ob5
      replace bb := bb.alloc bb.size ob5
      subst ho
      have hyz : ¬ (w.heap.size + 1 = w.heap.size + 1 + 1) := by omega
      have hzy : ¬ (w.heap.size + 1 + 1 = w.heap.size + 1) := by omega
      have hy4 : ¬ (w.heap.size + 1 = w4.heap.size) := by omega
      have hz4 : ¬ (w.heap.size + 1 + 1 = w4.heap.size) := by omega
      have hy5 : ¬ (w.heap.size + 1 = w5.heap.size) := by omega
      have hz5 : ¬ (w.heap.size + 1 + 1 = w5.heap.size) := by omega
      cases one with
      | false =>
        obtain rfl := HN.out (by simp)
        dsimp only
        obtain ⟨y1, y2, y3⟩ := y.c1
        obtain ⟨z1, z2, z3⟩ := z.c1
        clear p q x
        go_wp2_with fail
        exact bodyPost_ret (v := .tuple #[.agg #[.slice none 0 0], .agg #[.slice none 0 0], .bool false]) (by simp [results, Try.results52, go_sem, *]) rfl ⟨none, 0, none, 0, rfl, K.Rd.nil _ _ _, K.Rd.nil _ _ _, by (repeat (first | exact Below.refl _ _ | assumption | (refine K.below_drewN ?_ _) | (refine Below.drew ?_) | (refine Below.alloc ?_ (by first | (simp; done) | (simp; omega) | omega) _) | (refine Below.setCell ?_ (by first | (simp; done) | (simp; omega) | omega) _)))⟩
      | true =>
        cases two with
        | false =>
          obtain rfl := HN.out (by simp)
          dsimp only
          obtain ⟨y1, y2, y3⟩ := y.c1
          obtain ⟨z1, z2, z3⟩ := z.c1
          clear p q x
          go_wp2_with fail
          exact bodyPost_ret (v := .tuple #[.agg #[.slice none 0 0], .agg #[.slice none 0 0], .bool false]) (by simp [results, Try.results52, go_sem, *]) rfl ⟨none, 0, none, 0, rfl, K.Rd.nil _ _ _, K.Rd.nil _ _ _, by (repeat (first | exact Below.refl _ _ | assumption | (refine K.below_drewN ?_ _) | (refine Below.drew ?_) | (refine Below.alloc ?_ (by first | (simp; done) | (simp; omega) | omega) _) | (refine Below.setCell ?_ (by first | (simp; done) | (simp; omega) | omega) _)))⟩
        | true =>
          obtain rfl := HY.out rfl rfl
          dsimp only
          clear HN
          go_upto_region 8 with fail
          obtain ⟨V, hV⟩ : ∃ X, X = World.drew (w5.alloc (.cells #[.slice Y S.length m2] 40)) := ⟨_, rfl⟩
          replace y : K.Own V (w.heap.size + 1) [.slice none 0 0] := by rw [hV]; exact y.drew
          replace z : K.Own V (w.heap.size + 1 + 1) [.slice none 0 0] := by rw [hV]; exact z.drew
          replace p : K.Box V w4.heap.size [.slice X R.length m] := by rw [hV]; exact p.drew
          replace q : K.Box V w5.heap.size [.slice Y S.length m2] := by rw [hV]; exact q.drew
          replace P : K.Rd V 1 X R.length (R.map (Value.int .i64)) := by rw [hV]; exact P.drewN 1
          replace P2 : K.Rd V 1 Y S.length (S.map (Value.int .i64)) := by rw [hV]; exact P2.drewN 1
          replace bb : Below w.heap.size w V := by rw [hV]; exact bb.drew
          have hPl : ∀ q, K.blk X = some q → q ≠ w.heap.size + 1 ∧ q ≠ w.heap.size + 1 + 1 := HPl.out
          have hQl : ∀ q, K.blk Y = some q → q ≠ w.heap.size + 1 ∧ q ≠ w.heap.size + 1 + 1 := HQl.out
          obtain ⟨y1, y2, y3⟩ := y.c1
          obtain ⟨z1, z2, z3⟩ := z.c1
          refine wp_region_held_drew (S := fun w' => w'.cell? ⟨w4.heap.size, 0, none⟩ = some (.slice X R.length m) ∧ w'.cell? ⟨w5.heap.size, 0, none⟩ = some (.slice Y S.length m2)) (by kernel_rfl) (by rw [← hV]; exact ⟨p.c1, q.c1⟩) (fun hHeld => ?_)
          rw [← hV] at hHeld ⊢
          clear hV
          refine K.takeL 0 (v := ?_) rfl (by kernel_rfl) (by kernel_rfl) (by kernel_rfl) (fun _ _ _ h => h) (Or.inl ⟨rfl, ?_⟩) (by assumption) ?_
          rotate_left
          · intro w hSw; (try dsimp only at hSw); first | (go_simp; done) | (go_simp; with_reducible rfl)
          simp only [Act.put, List.setIfInBounds_toArray, List.set_cons_zero, List.set_cons_succ]
          refine K.takeL 1 (v := ?_) rfl (by kernel_rfl) (by kernel_rfl) (by kernel_rfl) (fun _ _ _ h => h) (Or.inl ⟨rfl, ?_⟩) (by assumption) ?_
          rotate_left
          · intro w hSw; (try dsimp only at hSw); first | (go_simp; done) | (go_simp; with_reducible rfl)
          simp only [Act.put, List.setIfInBounds_toArray, List.set_cons_zero, List.set_cons_succ]
          refine K.consL 2 rfl (by kernel_rfl) (fun KK hK => ?_)
          go_simp
          have ys := y.set1 (.slice X R.length m)
          have zs := z.setOther (p := ⟨w.heap.size + 1, 0, none⟩) (by first | (simp; done) | (simp; omega)) (.slice X R.length m)
          have ps := p.setOther (p := ⟨w.heap.size + 1, 0, none⟩) (by first | (simp; done) | (simp; omega)) (.slice X R.length m)
          have qs := q.setOther (p := ⟨w.heap.size + 1, 0, none⟩) (by first | (simp; done) | (simp; omega)) (.slice X R.length m)
          have bs := bb.setCell (p := ⟨w.heap.size + 1, 0, none⟩) (by first | (simp; done) | (simp; omega)) (.slice X R.length m)
          have Ps := P.setOther (p := ⟨w.heap.size + 1, 0, none⟩) (fun q hq e => by have := hPl q hq; simp at e; omega) (.slice X R.length m)
          have Qs := P2.setOther (p := ⟨w.heap.size + 1, 0, none⟩) (fun q hq e => by have := hQl q hq; simp at e; omega) (.slice X R.length m)
          clear y z p q bb P P2 y1 y2 y3 z1 z2 z3
          have y := ys
          have z := zs
          have p := ps
          have q := qs
          have bb := bs
          have P := Ps
          have P2 := Qs
          clear ys zs ps qs bs Ps Qs
          obtain ⟨y1, y2, y3⟩ := y.c1
          obtain ⟨z1, z2, z3⟩ := z.c1
          refine hK.out _ _ ⟨p.c1, q.c1⟩ (fun hHeld => ?_)
          clear hK KK
          try simp only [Act.put, List.setIfInBounds_toArray, List.set_cons_zero, List.set_cons_succ]
          refine K.consL 3 rfl (by kernel_rfl) (fun KK hK => ?_)
          go_simp
          have zs := z.set1 (.slice Y S.length m2)
          have ys := y.setOther (p := ⟨w.heap.size + 1 + 1, 0, none⟩) (by first | (simp; done) | (simp; omega)) (.slice Y S.length m2)
          have ps := p.setOther (p := ⟨w.heap.size + 1 + 1, 0, none⟩) (by first | (simp; done) | (simp; omega)) (.slice Y S.length m2)
          have qs := q.setOther (p := ⟨w.heap.size + 1 + 1, 0, none⟩) (by first | (simp; done) | (simp; omega)) (.slice Y S.length m2)
          have bs := bb.setCell (p := ⟨w.heap.size + 1 + 1, 0, none⟩) (by first | (simp; done) | (simp; omega)) (.slice Y S.length m2)
          have Ps := P.setOther (p := ⟨w.heap.size + 1 + 1, 0, none⟩) (fun q hq e => by have := hPl q hq; simp at e; omega) (.slice Y S.length m2)
          have Qs := P2.setOther (p := ⟨w.heap.size + 1 + 1, 0, none⟩) (fun q hq e => by have := hQl q hq; simp at e; omega) (.slice Y S.length m2)
          clear y z p q bb P P2 y1 y2 y3 z1 z2 z3
          have y := ys
          have z := zs
          have p := ps
          have q := qs
          have bb := bs
          have P := Ps
          have P2 := Qs
          clear ys zs ps qs bs Ps Qs
          obtain ⟨y1, y2, y3⟩ := y.c1
          obtain ⟨z1, z2, z3⟩ := z.c1
          refine hK.out _ _ ⟨p.c1, q.c1⟩ (fun hHeld => ?_)
          clear hK KK
          try simp only [Act.put, List.setIfInBounds_toArray, List.set_cons_zero, List.set_cons_succ]
          refine K.takeL 4 (v := ?_) rfl (by kernel_rfl) (by kernel_rfl) (by kernel_rfl) (fun _ _ _ h => h) (Or.inl ⟨rfl, ?_⟩) (by assumption) ?_
          rotate_left
          · intro w hSw; (try dsimp only at hSw); first | (go_simp; done) | (go_simp; with_reducible rfl)
          simp only [Act.put, List.setIfInBounds_toArray, List.set_cons_zero, List.set_cons_succ]
          refine wpAnyH_done (by kernel_rfl) ?_ _
          go_wp2_with fail
          exact bodyPost_ret (v := .tuple #[.agg #[.slice X R.length m], .agg #[.slice Y S.length m2], .bool true]) (by simp [results, Try.results52, go_sem, y1, z1]) rfl ⟨X, m, Y, m2, rfl, P, P2, bb⟩
end Go.Proofs.Ytfgnmjnlhnpmoaa.PartOf
