/-
  Walks: the draw of a list of moves of beads (printed by gen_mbeads.py).
-/
import Derived.Test.YthlkdaogmcjlbaaMoveE
import Derived.Test.YthlkdaogmcjlbaaMoves
set_option linter.unusedVariables false
namespace Go.Proofs.Ythlkdaogmcjlbaa.MoveD
open Go.RowKit
theorem row_mademv (w : World) (lo : Nat) (h : lo ≤ w.heap.size) : K.Row (w.alloc (.cells #[] 25)) lo 25 3 (some ⟨w.heap.size, 0, none⟩) 0 0 [] := by
  have h0 : K.Row (w.alloc (.cells #[] 25)) w.heap.size 25 3 (some ⟨w.heap.size, 0, none⟩) 0 0 [] := World.ownsRow_made w #[] 0 (Nat.le_refl _) (Nat.zero_le _) rfl
  exact h0.more h
theorem rd_lt {w : World} {A : Option Addr} {l : List (Int × Int)} (h : K.Rd w 2 A l.length (l.flatMap M.rodCells)) (hn : 0 < l.length) : ∀ q, K.blk A = some q → q < w.heap.size := by
  intro q hq
  obtain ⟨q2, o2, e2, h2, _⟩ := h.rod hn
  rw [e2] at hq
  have : q2 = q := Option.some.inj hq
  omega
/-- a list of moves in the making, and the frame at hand in block b, beside a cursor. -/
structure Bs (w wr : World) (lo g Bq b : Nat) (Ao : Option Addr) (co : Nat) (ms : List M.Move) (A : Option Addr) (c : Nat) (f : M.Frame) : Prop where
  out : K.Row wr w.heap.size 25 3 Ao ms.length co (ms.flatMap M.moveCells)
  now : K.Own wr b [.int .i64 f.upper, .int .i64 f.lower, .slice A f.rods.length c]
  row : K.Rd wr 2 A f.rods.length (f.rods.flatMap M.rodCells)
  na : 0 < f.rods.length → ∀ q, K.blk A = some q → q ≠ g ∧ q ≠ b ∧ K.blk Ao ≠ some q
  nb : K.blk Ao ≠ some b
  hb : w.heap.size ≤ b
  cur : K.Cur wr lo g Bq
  gro : w.grownBy wr (some g)
  glt : g < w.heap.size
section
variable {w wr w2 : World} {lo g Bq b : Nat} {Ao : Option Addr} {co : Nat} {ms : List M.Move} {A : Option Addr} {c : Nat} {f : M.Frame}
theorem Bs.cg (F : Bs w wr lo g Bq b Ao co ms A c f) : Cg w wr lo g Bq := ⟨F.cur, F.gro, F.glt⟩
theorem Bs.blt (F : Bs w wr lo g Bq b Ao co ms A c f) : b < wr.heap.size := F.now.1.1
theorem Bs.alloc (F : Bs w wr lo g Bq b Ao co ms A c f) (o : Obj) : Bs w (wr.alloc o) lo g Bq b Ao co ms A c f :=
  ⟨F.out.alloc o, F.now.alloc o, F.row.alloc o, F.na, F.nb, F.hb, F.cur.alloc o, K.grown_trans F.gro (K.grown_below ((Below.refl _ _).alloc (Nat.le_refl _) _) _), F.glt⟩
theorem Bs.went {n : Nat} (F : Bs w wr lo g Bq b Ao co ms A c f) (h : K.Went wr lo g Bq n w2) : Bs w w2 lo g (Bq + n) b Ao co ms A c f :=
  ⟨F.out.kept h.2 (fun q hq e => by injection e with e; have := (F.out.lt q hq).1; have := F.glt; omega), F.now.kept h.2 (fun e => by injection e with e; have := F.glt; have := F.hb; omega), F.row.kept0 h.2 (fun hn q hq e => (F.na hn q hq).1 (Option.some.inj e).symm), F.na, F.nb, F.hb, h.1, K.grown_trans F.gro h.2, F.glt⟩
theorem Bs.more {Bq' : Nat} (F : Bs w wr lo g Bq b Ao co ms A c f) (h : Bq ≤ Bq') : Bs w wr lo g Bq' b Ao co ms A c f := ⟨F.out, F.now, F.row, F.na, F.nb, F.hb, F.cur.mono h, F.gro, F.glt⟩
theorem Bs.below (F : Bs w wr lo g Bq b Ao co ms A c f) (h : Below wr.heap.size wr w2) : Bs w w2 lo g Bq b Ao co ms A c f :=
  ⟨F.out.below h, F.now.below h, F.row.below h, F.na, F.nb, F.hb, F.cur.below h, K.grown_trans F.gro (K.grown_below h _), F.glt⟩
theorem Bs.push (F : Bs w wr lo g Bq b Ao co ms A c f) {r p y : Int} {Ao' : Option Addr} {co' : Nat} (hr : K.Row w2 w.heap.size 25 3 Ao' (ms.length + 1) co' (ms.flatMap M.moveCells ++ [.int .i64 r, .int .i64 p, .int .i64 y])) (hg : wr.grownBy w2 (K.blk Ao)) (hat : ∀ q, K.blk Ao' = some q → K.blk Ao = some q ∨ wr.heap.size ≤ q) :
    Bs w w2 lo g Bq b Ao' co' (ms ++ [⟨r, p, y⟩]) A c f := by
  have h2 := F.cg.grownN hg (fun q hq => (F.out.lt q hq).1)
  refine ⟨?_, F.now.kept hg F.nb, F.row.kept0 hg (fun hn q hq => (F.na hn q hq).2.2), fun hn q hq => ⟨(F.na hn q hq).1, (F.na hn q hq).2.1, fun e => ?_⟩, fun e => ?_, F.hb, h2.cur, h2.gro, F.glt⟩
  · rw [List.flatMap_append, List.length_append]; simpa [M.moveCells] using hr
  · have h1 := rd_lt F.row hn q hq
    rcases hat q e with h | h
    · exact (F.na hn q hq).2.2 h
    · omega
  · rcases hat b e with h | h
    · exact F.nb h
    · have := F.blt; omega
theorem Bs.setNow (F : Bs w wr lo g Bq b Ao co ms A c f) {A2 : Option Addr} {c2 : Nat} {f2 : M.Frame} (hr : K.Rd wr 2 A2 f2.rods.length (f2.rods.flatMap M.rodCells)) (hna : 0 < f2.rods.length → ∀ q, K.blk A2 = some q → q ≠ g ∧ q ≠ b ∧ K.blk Ao ≠ some q) :
    Bs w (((wr.setCell ⟨b, 0, none⟩ (.int .i64 f2.upper)).setCell ⟨b, 1, none⟩ (.int .i64 f2.lower)).setCell ⟨b, 2, none⟩ (.slice A2 f2.rods.length c2)) lo g Bq b Ao co ms A2 c2 f2 := by
  have hb := F.hb
  have h3 := ((F.cg.set (p := ⟨b, 0, none⟩) hb (.int .i64 f2.upper)).set (p := ⟨b, 1, none⟩) hb (.int .i64 f2.lower)).set (p := ⟨b, 2, none⟩) hb (.slice A2 f2.rods.length c2)
  have hn1 : ∀ q, K.blk Ao = some q → b ≠ q := fun q hq e => F.nb (by rw [hq, e])
  have hn2 : 0 < f2.rods.length → ∀ q, K.blk A2 = some q → some b ≠ some q := fun hn q hq e => (hna hn q hq).2.1 (Option.some.inj e).symm
  refine ⟨((F.out.setNe (p := ⟨b, 0, none⟩) hn1 _).setNe (p := ⟨b, 1, none⟩) hn1 _).setNe (p := ⟨b, 2, none⟩) hn1 _, ?_, ((hr.kept0 (K.setCell_grown _ ⟨b, 0, none⟩ _) hn2).kept0 (K.setCell_grown _ ⟨b, 1, none⟩ _) hn2).kept0 (K.setCell_grown _ ⟨b, 2, none⟩ _) hn2, hna, F.nb, hb, h3.cur, h3.gro, F.glt⟩
  have h := ((F.now.set_ 0 (by simp) (.int .i64 f2.upper)).set_ 1 (by simp) (.int .i64 f2.lower)).set_ 2 (by simp) (.slice A2 f2.rods.length c2)
  simpa using h
end
/-- what a draw of a list of moves returns. -/
def RetMs (w : World) (lo g B : Nat) (e : Ending) (w' : World) : Prop :=
  ∃ (A : Option Addr) (c : Nat) (ms : List M.Move), e = .returned (.slice A ms.length c) ∧ ms.length ≤ 62 ∧ K.Row w' w.heap.size 25 3 A ms.length c (ms.flatMap M.moveCells) ∧ K.Went w lo g B 600 w'
set_option maxRecDepth 100000 in
set_option maxHeartbeats 4000000 in
theorem beads (f : M.Frame) (A : Option Addr) (c : Nat) (w : World) (lo g B : Nat) (h : K.Cur w lo g B) (hB : B ≤ 100000) (hl : f.rods.length ≤ 1048576) (ha : K.Rd w 2 A f.rods.length (f.rods.flatMap M.rodCells)) (hna : 0 < f.rods.length → ∀ q, K.blk A = some q → q ≠ g) :
    Calls Try.prog 82 #[.pointer (some ⟨g, 0, none⟩), .agg #[.int .i64 f.upper, .int .i64 f.lower, .slice A f.rods.length c]] w (RetMs w lo g B) := by
  obtain ⟨i0, hi0, hz0, hz1, hz2⟩ := info_parts Moves.info
  have hglt := h.lt.2
  have hrl := fun hn => rd_lt ha hn
  have hx := K.Box.new w #[.int .i64 f.upper, .int .i64 f.lower, .slice A f.rods.length c] 33
  have E : Hid (Bs w (((w.alloc (.cells #[.int .i64 f.upper, .int .i64 f.lower, .slice A f.rods.length c] 33)).alloc (.cells #[] 25)).alloc (.cells #[.int .i64 f.upper, .int .i64 f.lower, .slice A f.rods.length c] 33)) lo g B (w.heap.size + 1 + 1) (some ⟨w.heap.size + 1, 0, none⟩) 0 [] A c f) := Lib.hid ⟨by have h := (row_mademv (w.alloc (.cells #[.int .i64 f.upper, .int .i64 f.lower, .slice A f.rods.length c] 33)) w.heap.size (by simp)).alloc (.cells #[.int .i64 f.upper, .int .i64 f.lower, .slice A f.rods.length c] 33); rw [World.size_alloc] at h; exact h, by have h := K.Own.new ((w.alloc (.cells #[.int .i64 f.upper, .int .i64 f.lower, .slice A f.rods.length c] 33)).alloc (.cells #[] 25)) #[.int .i64 f.upper, .int .i64 f.lower, .slice A f.rods.length c] 33; rw [World.size_alloc, World.size_alloc] at h; exact h, ((ha.alloc _).alloc _).alloc _, fun hn q hq => ⟨hna hn q hq, (by have := hrl hn q hq; omega), fun e => by have : w.heap.size + 1 = q := Option.some.inj e; have := hrl hn q hq; omega⟩, (fun e => by have : w.heap.size + 1 = w.heap.size + 1 + 1 := Option.some.inj e; omega), by omega, ((h.alloc _).alloc _).alloc _, K.grown_below ((((Below.refl _ _).alloc (Nat.le_refl _) _).alloc (by simp) _).alloc (by simp; omega) _) _, hglt⟩
  obtain ⟨b0, b1, b2⟩ := hx.c3
  have hx1 := hx.1
  clear h ha hna hrl hx
  go_enter Try.func82, Try.ntmps82
  go_wp2_with fail
  refine (Cur.pick _ lo g _ 9 E.out.cur (by omega)).mono ?_
  rintro e w1 ⟨n0, rfl, ⟨n1, n2⟩, q1⟩
  replace E := Lib.hid (E.out.went q1)
  clear q1 b0 b1 b2 hx1
  obtain ⟨m0, rfl⟩ := Int.eq_ofNat_of_zero_le n1
  have hm8 : m0 ≤ 8 := by omega
  clear n1 n2
  generalize w.heap.size + 1 + 1 = b at *
  go_wp2_with fail
  go_loopw [5, 7] (fun o n wr => ∃ (m k : Nat) (Ao : Option Addr) (co : Nat) (ms : List M.Move) (A : Option Addr) (c : Nat) (f : M.Frame), o = .slice Ao ms.length co ∧ n = .int .i64 (m : Int) ∧ m + k ≤ 8 ∧ ms.length ≤ k ∧ f.rods.length ≤ 1048576 ∧ Hid (Bs w wr lo g (B + 2 + 45 * k) b Ao co ms A c f)) (fun _ n _ => (intOf n).toNat)
  case atStart => exact ⟨m0, 0, _, 0, [], A, c, f, rfl, rfl, by omega, by simp, hl, E⟩
  case round =>
    clear E hl
    obtain ⟨m, k, Ao, co, ms, A, c, f, rfl, rfl, hmk, hms, hl, E⟩ := hrel
    cases m with
    | succ m =>
      have hm1 : (0 : Int) < ((m + 1 : Nat) : Int) := by omega
      skip
      have hj : ms.length + 1 ≤ maxLen := by simp only [maxLen]; omega
      obtain ⟨b0, b1, b2, bf0, bf1, bf2, bg⟩ := E.out.now.c3
      go_wp2_with fail
      refine (bead f A c _ lo g _ E.out.cur (by omega) hl E.out.row (fun hn q hq => (E.out.na hn q hq).1)).mono ?_
      rintro e w2 ⟨p, rfl, q2⟩
      replace E := Lib.hid (E.out.went q2)
      clear b0 b1 b2 bf0 bf1 bf2 bg q2
      have hg2 : g < w2.heap.size := by have := E.out.gro.size; omega
      have MM := Lib.hid (K.Box.new w2 #[.int .i64 p.rod, .int .i64 p.part, .int .i64 p.by_] 25)
      replace E := Lib.hid (E.out.alloc (.cells #[.int .i64 p.rod, .int .i64 p.part, .int .i64 p.by_] 25))
      obtain ⟨b0, b1, b2, bf0, bf1, bf2, bg⟩ := E.out.now.c3
      obtain ⟨m0, m1, m2⟩ := MM.out.c3
      go_wp2_with fail
      refine (MoveC.s_move f A c p _ hl E.out.row).mono ?_
      rintro e w3 ⟨f2, A2, c2, bb, rfl, hbl, hr2, hf2, hbw⟩
      have HBL := Lib.hid hbl
      clear hbl
      skip
      have hng : ∀ q, K.blk A2 = some q → q ≠ g ∧ q ≠ b ∧ K.blk Ao ≠ some q := fun q hq => ⟨by have := hf2 q hq; have := E.out.cg.gro.size; have := E.out.glt; omega, by have := hf2 q hq; have := E.out.blt; omega, fun e => by have := hf2 q hq; have := (E.out.out.lt q e).2; omega⟩
      have hA2 := fun hn => rd_lt hr2 hn
      replace E := Lib.hid (E.out.below hbw)
      replace MM := Lib.hid (MM.out.below hbw)
      clear b0 b1 b2 bf0 bf1 bf2 bg m0 m1 m2 hbw hf2
      have hna3 : K.blk Ao ≠ some w3.heap.size := fun e => by have := (E.out.out.lt _ e).2; omega
      have N := Lib.hid (K.Box.new w3 #[.int .i64 f2.upper, .int .i64 f2.lower, .slice A2 f2.rods.length c2] 33)
      replace hr2 := hr2.alloc (.cells #[.int .i64 f2.upper, .int .i64 f2.lower, .slice A2 f2.rods.length c2] 33)
      replace E := Lib.hid (E.out.alloc (.cells #[.int .i64 f2.upper, .int .i64 f2.lower, .slice A2 f2.rods.length c2] 33))
      replace MM := Lib.hid (MM.out.alloc (.cells #[.int .i64 f2.upper, .int .i64 f2.lower, .slice A2 f2.rods.length c2] 33))
      have hlo : w.heap.size ≤ (w3.alloc (.cells #[.int .i64 f2.upper, .int .i64 f2.lower, .slice A2 f2.rods.length c2] 33)).heap.size := E.out.gro.size
      cases bb with
      | true =>
        have hl2 : f2.rods.length ≤ 1048576 := by rw [HBL.out rfl]; exact hl
        clear HBL
        obtain ⟨m0, m1, m2⟩ := MM.out.c3
        have mg := MM.out.1
        go_wp2_with (at_builtin; go_must (refine K.append1 rfl (.tmp 29) (.tmp 31) _ rfl w.heap.size _ i0 _ 3 24 Try.underlying43 hi0 hz0 hz1 hz2 rfl (by omega) Ao ms.length co _ rfl E.out.out #[.int .i64 p.rod, .int .i64 p.part, .int .i64 p.by_] rfl (by simp [Value.oneCell']) (by simp [go_sem]) hj (by omega) hlo ?_; intro g5 c5 w5 hrow5 hb5 hlo5 hat5 hg5; obtain ⟨d0, d1, d2⟩ := (N.out.kept hg5 hna3).c3; obtain ⟨b0, b1, b2, bf0, bf1, bf2, bg⟩ := (E.out.now.kept hg5 E.out.nb).c3))
        try clear m0 m1 m2 mg
        have E5 := Lib.hid (E.out.push hrow5 hg5 (fun q hq => by have hq := Option.some.inj hq; subst hq; exact hat5))
        have hr5 := hr2.kept0 hg5 (fun hn q hq => (hng q hq).2.2)
        have hna5 : 0 < f2.rods.length → ∀ q, K.blk A2 = some q → q ≠ g ∧ q ≠ b ∧ K.blk (some (⟨g5, 0, none⟩ : Addr)) ≠ some q := fun hn q hq => ⟨(hng q hq).1, (hng q hq).2.1, fun e => by have e := Option.some.inj e; rcases hat5 with h | h; exact (hng q hq).2.2 (by rw [h]; exact congrArg some e); have := hA2 hn q hq; rw [World.size_alloc] at h; have e : g5 = q := e; omega⟩
        have E6 := Lib.hid (E5.out.setNow (c2 := c2) hr5 hna5)
        clear E E5 MM N hr5 hna5 hr2 hng hA2 hrow5 hb5 hlo5 hat5 hg5 hna3 d0 d1 d2 b0 b1 b2 bf0 bf1 bf2 bg hlo
        go_wp2_with fail
        go_roundw
        case rel => exact ⟨m, k + 1, (some ⟨g5, 0, none⟩), c5, (ms ++ [p]), A2, c2, f2, by first | rfl | (rw [List.length_append]; rfl), by go_num, by omega, by first | omega | (rw [List.length_append]; simp; omega), hl2, Lib.hid (E6.out.more (by omega))⟩
        case measure => first | (simp [intOf]; done) | (simp [intOf]; omega)
      | false =>
        go_wp2_with fail
        refine (Cur.one _ lo g _ 8 E.out.cur (by omega)).mono ?_
        rintro e w4 ⟨bo, rfl, q4⟩
        replace E := Lib.hid (E.out.went q4)
        replace MM := Lib.hid (MM.out.kept q4.2 (fun e => by injection e with e; omega))
        clear q4 N hr2 hng hA2 hna3 HBL hlo
        have hlo : w.heap.size ≤ w4.heap.size := E.out.gro.size
        cases bo with
        | true =>
          obtain ⟨m0, m1, m2⟩ := MM.out.c3
          have mg := MM.out.1
          go_wp2_with (at_builtin; go_must (refine K.append1 rfl (.tmp 36) (.tmp 38) _ rfl w.heap.size _ i0 _ 3 24 Try.underlying43 hi0 hz0 hz1 hz2 rfl (by omega) Ao ms.length co _ rfl E.out.out #[.int .i64 p.rod, .int .i64 p.part, .int .i64 p.by_] rfl (by simp [Value.oneCell']) (by simp [go_sem]) hj (by omega) hlo ?_; intro g5 c5 w5 hrow5 hb5 hlo5 hat5 hg5))
          try clear m0 m1 m2 mg
          have E5 := Lib.hid (E.out.push hrow5 hg5 (fun q hq => by have hq := Option.some.inj hq; subst hq; exact hat5))
          clear E MM hrow5 hb5 hlo5 hat5 hg5 hlo
          go_wp2_with fail
          go_roundw
          case rel => exact ⟨m, k + 1, (some ⟨g5, 0, none⟩), c5, (ms ++ [p]), A, c, f, by first | rfl | (rw [List.length_append]; rfl), by go_num, by omega, by first | omega | (rw [List.length_append]; simp; omega), hl, Lib.hid (E5.out.more (by omega))⟩
          case measure => first | (simp [intOf]; done) | (simp [intOf]; omega)
        | false =>
          clear MM hlo
          go_wp2_with fail
          go_roundw
          case rel => exact ⟨m, k + 1, Ao, co, ms, A, c, f, by first | rfl | (rw [List.length_append]; rfl), by go_num, by omega, by first | omega | (rw [List.length_append]; simp; omega), hl, Lib.hid (E.out.more (by omega))⟩
          case measure => first | (simp [intOf]; done) | (simp [intOf]; omega)
    | zero =>
      have hm1 : ¬ (0 : Int) < ((0 : Nat) : Int) := by omega
      have hms8 : ms.length ≤ 8 := by omega
      go_wp2_with fail
      refine (Cur.one _ lo g _ 40 E.out.cur (by omega)).mono ?_
      rintro e w2 ⟨bo, rfl, q2⟩
      replace E := Lib.hid (E.out.went q2)
      clear q2
      cases bo with
      | false =>
        go_wp2_with fail
        go_ret
        exact ⟨Ao, co, ms, rfl, by omega, E.out.out, E.out.cg.fin (by omega)⟩
      | true =>
        go_wp2_with fail
        go_loopw [5] (fun o wr => ∃ (Ao : Option Addr) (co : Nat) (ms : List M.Move), o = .slice Ao ms.length co ∧ ms.length ≤ 62 ∧ Hid (Bs w wr lo g (B + 400 + 2 * ms.length) b Ao co ms A c f)) (fun o _ => match o with | .slice _ n _ => 64 - n | _ => 0)
        case atStart => exact ⟨Ao, co, ms, rfl, by omega, Lib.hid (E.out.more (by omega))⟩
        case round =>
          clear E hmk hms hms8
          obtain ⟨Ao, co, ms, rfl, hms, E⟩ := hrel
          try rename World => wr
          go_wp2_with fail
          refine (Cur.pick _ lo g _ 2 E.out.cur (by omega)).mono ?_
          rintro e w3 ⟨x, rfl, ⟨x0, x1⟩, q3⟩
          replace E := Lib.hid (E.out.went q3)
          clear q3
          have hwx : IntKind.i64.wrap (60 + x) = 60 + x := IntWalk.i64_in _ (by omega)
          by_cases hlt : (ms.length : Int) < 60 + x
          · have hj : ms.length + 1 ≤ maxLen := by simp only [maxLen]; omega
            have hlo : w.heap.size ≤ w3.heap.size := E.out.gro.size
            go_wp2_with (at_builtin; go_must (refine K.append1 rfl (.tmp 48) (.tmp 55) _ rfl w.heap.size _ i0 _ 3 24 Try.underlying43 hi0 hz0 hz1 hz2 rfl (by omega) Ao ms.length co _ rfl E.out.out #[.int .i64 0, .int .i64 1, .int .i64 _] rfl (by simp [Value.oneCell']) (by simp [go_sem]) hj (by omega) hlo ?_; intro g5 c5 w5 hrow5 hb5 hlo5 hat5 hg5))
            have E5 := Lib.hid (E.out.push hrow5 hg5 (fun q hq => by have hq := Option.some.inj hq; subst hq; exact hat5))
            clear E hrow5 hb5 hlo5 hat5 hg5 hlo
            go_wp2_with fail
            go_roundw
            case rel => exact ⟨_, c5, _, by first | rfl | (rw [List.length_append]; rfl), by rw [List.length_append]; simp; omega, Lib.hid (E5.out.more (by rw [List.length_append]; simp; omega))⟩
            case measure => first | (simp; done) | (simp; omega)
          · go_wp2_with fail
            go_ret
            exact ⟨Ao, co, ms, rfl, hms, E.out.out, E.out.cg.fin (by omega)⟩
end Go.Proofs.Ythlkdaogmcjlbaa.MoveD
