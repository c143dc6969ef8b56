/-
  Walks: the draws of frames and moves of beads (printed by gen_mdraw.py).
-/
import Derived.Test.YthlkdaogmcjlbaaMoveC
import Derived.Test.YthlkdaogmcjlbaaCur
import Derived.Test.YthlkdaogmcjlbaaSliceInt
import Derived.Test.YthlkdaogmcjlbaaKit5
import Derived.Test.YthlkdaogmcjlbaaKit3
import Derived.Deep.DeepCutAuto
import Derived.Deep.RegionHeld3
import Derived.Deep.CutBlock
import Derived.Deep.DeepMust
set_option linter.unusedVariables false
namespace Go.Proofs.Ythlkdaogmcjlbaa.MoveD
open Go.RowKit
theorem grow_low {w a b : World} {row : Option Nat} {lo : Nat} (h : w.grownBy a row) (hb : Below lo a b) (hlo : w.heap.size ≤ lo) : w.grownBy b row :=
  ⟨hb.os.trans h.os, hb.tape.trans h.tape, hb.output.trans h.output, Nat.le_trans h.size hb.size, fun i hi hne => (hb.block i (by omega)).trans (h.block i hi hne)⟩
/-- a cursor, and what has turned since w: nothing old but the cursor. -/
structure Cg (w wr : World) (lo g Bq : Nat) : Prop where
  cur : K.Cur wr lo g Bq
  gro : w.grownBy wr (some g)
  glt : g < w.heap.size
section
variable {w wr w2 : World} {lo g Bq : Nat}
theorem Cg.start (h : K.Cur w lo g Bq) : Cg w w lo g Bq := ⟨h, World.grownBy.refl _ _, h.lt.2⟩
theorem Cg.alloc (F : Cg w wr lo g Bq) (o : Obj) : Cg w (wr.alloc o) lo g Bq := ⟨F.cur.alloc o, K.grown_trans F.gro (K.grown_below ((Below.refl _ _).alloc (Nat.le_refl _) _) _), F.glt⟩
theorem Cg.went {n : Nat} (F : Cg w wr lo g Bq) (h : K.Went wr lo g Bq n w2) : Cg w w2 lo g (Bq + n) := ⟨h.1, K.grown_trans F.gro h.2, F.glt⟩
theorem Cg.set (F : Cg w wr lo g Bq) {p : Addr} (hp : w.heap.size ≤ p.block) (u : Value) : Cg w (wr.setCell p u) lo g Bq :=
  ⟨F.cur.kept (K.setCell_grown wr p u) (fun q hq => by injection hq with hq; have := F.cur.lt; have := F.glt; omega) (fun e => by injection e with e; have := F.glt; omega), grow_low F.gro (lo := w.heap.size) ((Below.refl _ _).setCell hp u) (Nat.le_refl _), F.glt⟩
theorem Cg.fin {B n : Nat} (F : Cg w wr lo g Bq) (h : Bq ≤ B + n) : K.Went w lo g B n wr := ⟨F.cur.mono h, F.gro⟩
theorem Cg.grown (F : Cg w wr lo g Bq) {q : Nat} (hg : wr.grownBy w2 (some q)) (hq : w.heap.size ≤ q) : Cg w w2 lo g Bq :=
  ⟨F.cur.kept hg (fun k hk => by injection hk with hk; have := F.cur.lt; have := F.glt; omega) (fun e => by injection e with e; have := F.glt; omega), ⟨hg.os.trans F.gro.os, hg.tape.trans F.gro.tape, hg.output.trans F.gro.output, Nat.le_trans F.gro.size hg.size, fun i hi hne => (hg.block i (Nat.lt_of_lt_of_le hi F.gro.size) (fun e => by injection e with e; omega)).trans (F.gro.block i hi hne)⟩, F.glt⟩
theorem Cg.grownN (F : Cg w wr lo g Bq) {A : Option Addr} (hg : wr.grownBy w2 (K.blk A)) (hq : ∀ q, K.blk A = some q → w.heap.size ≤ q) : Cg w w2 lo g Bq := by
  cases h : K.blk A with
  | some q => rw [h] at hg; exact F.grown hg (hq q h)
  | none =>
    rw [h] at hg
    exact ⟨F.cur.kept hg (fun q hq => by cases hq) (fun e => by cases e), ⟨hg.os.trans F.gro.os, hg.tape.trans F.gro.tape, hg.output.trans F.gro.output, Nat.le_trans F.gro.size hg.size, fun i hi hne => (hg.block i (Nat.lt_of_lt_of_le hi F.gro.size) (fun e => by cases e)).trans (F.gro.block i hi hne)⟩, F.glt⟩
end
/-- the length that a slice in a cell tells. -/
def lenAt (w : World) (b k : Nat) : Nat := match w.cell? ⟨b, k, none⟩ with | some (.slice _ n _) => n | _ => 0
/-- a frame in the making beside a cursor: its box lies at b, the result's at w.heap.size. -/
structure Fd (w wr : World) (lo g Bq b : Nat) (A : Option Addr) (c : Nat) (f : M.Frame) : Prop where
  row : K.Row wr (w.heap.size + 1) 74 2 A f.rods.length c (f.rods.flatMap M.rodCells)
  box : K.Own wr b [.int .i64 f.upper, .int .i64 f.lower, .slice A f.rods.length c]
  res : K.Own wr w.heap.size [.int .i64 0, .int .i64 0, .slice none 0 0]
  na : K.blk A ≠ some b
  hb : w.heap.size < b
  cur : K.Cur wr lo g Bq
  gro : w.grownBy wr (some g)
  glt : g < w.heap.size
section
variable {w wr w2 : World} {lo g Bq b : Nat} {A : Option Addr} {c : Nat} {f : M.Frame}
theorem Fd.blt (F : Fd w wr lo g Bq b A c f) : b < wr.heap.size := F.box.1.1
theorem Fd.drew (F : Fd w wr lo g Bq b A c f) : Fd w wr.drew lo g Bq b A c f :=
  ⟨F.row.drew, F.box.drew, F.res.drew, F.na, F.hb, F.cur.drew, K.grown_trans F.gro (K.grown_below (Below.refl _ _).drew _), F.glt⟩
theorem Fd.alloc (F : Fd w wr lo g Bq b A c f) (o : Obj) : Fd w (wr.alloc o) lo g Bq b A c f :=
  ⟨F.row.alloc o, F.box.alloc o, F.res.alloc o, F.na, F.hb, F.cur.alloc o, K.grown_trans F.gro (K.grown_below ((Below.refl _ _).alloc (Nat.le_refl _) _) _), F.glt⟩
theorem Fd.went {n : Nat} (F : Fd w wr lo g Bq b A c f) (h : K.Went wr lo g Bq n w2) : Fd w w2 lo g (Bq + n) b A c f :=
  ⟨F.row.kept h.2 (fun q hq e => by injection e with e; have := (F.row.lt q hq).1; have := F.glt; omega), F.box.kept h.2 (fun e => by injection e with e; have := F.glt; have := F.hb; omega), F.res.kept h.2 (fun e => by injection e with e; have := F.glt; omega), F.na, F.hb, h.1, K.grown_trans F.gro h.2, F.glt⟩
theorem Fd.more {Bq' : Nat} (F : Fd w wr lo g Bq b A c f) (h : Bq ≤ Bq') : Fd w wr lo g Bq' b A c f := ⟨F.row, F.box, F.res, F.na, F.hb, F.cur.mono h, F.gro, F.glt⟩
theorem Fd.curSet (F : Fd w wr lo g Bq b A c f) {p : Addr} (hp : w.heap.size ≤ p.block) (u : Value) : K.Cur (wr.setCell p u) lo g Bq ∧ w.grownBy (wr.setCell p u) (some g) :=
  ⟨F.cur.kept (K.setCell_grown wr p u) (fun q hq => by injection hq with hq; have := F.cur.lt; have := F.glt; omega) (fun e => by injection e with e; have := F.glt; omega), grow_low F.gro (lo := w.heap.size) ((Below.refl _ _).setCell hp u) (Nat.le_refl _)⟩
/-- what an append to the rods leaves, ahead of the store. -/
theorem Fd.grown (F : Fd w wr lo g Bq b A c f) (hg : wr.grownBy w2 (K.blk A)) : K.Own w2 b [.int .i64 f.upper, .int .i64 f.lower, .slice A f.rods.length c] ∧ K.Own w2 w.heap.size [.int .i64 0, .int .i64 0, .slice none 0 0] ∧ K.Cur w2 lo g Bq ∧ w.grownBy w2 (some g) := by
  have hB := F.row.lt
  have hc : Cg w wr lo g Bq := ⟨F.cur, F.gro, F.glt⟩
  have h2 := hc.grownN hg (fun q hq => by have := (hB q hq).1; omega)
  exact ⟨F.box.kept hg F.na, F.res.kept hg (fun e => by have := (hB _ e).1; omega), h2.cur, h2.gro⟩
theorem Fd.push (F : Fd w wr lo g Bq b A c f) {x y : Int} {A' : Option Addr} {c' : Nat} (hr : K.Row w2 (w.heap.size + 1) 74 2 A' (f.rods.length + 1) c' (f.rods.flatMap M.rodCells ++ [.int .i64 x, .int .i64 y])) (hg : wr.grownBy w2 (K.blk A)) (hat : ∀ q, K.blk A' = some q → K.blk A = some q ∨ wr.heap.size ≤ q) :
    Fd w (w2.setCell ⟨b, 2, none⟩ (.slice A' (f.rods.length + 1) c')) lo g Bq b A' c' ⟨f.upper, f.lower, f.rods ++ [(x, y)]⟩ := by
  obtain ⟨h1, h2, h3, h4⟩ := F.grown hg
  have hb := F.hb
  have hna : K.blk A' ≠ some b := fun e => by rcases hat _ e with h | h; exact F.na h; have := F.blt; omega
  have hglt := F.glt
  have hlt := F.cur.lt
  refine ⟨?_, ?_, h2.setOther (by simp only; omega) _, hna, hb, ?_, ?_, hglt⟩
  · have h := hr.setNe (p := ⟨b, 2, none⟩) (fun q hq e => hna (by rw [hq, ← e])) (.slice A' (f.rods.length + 1) c')
    simpa [List.flatMap_append, M.rodCells] using h
  · have h := h1.set_ 2 (by simp) (.slice A' (f.rods.length + 1) c')
    simpa using h
  · exact h3.kept (K.setCell_grown w2 _ _) (fun q hq => by injection hq with hq; simp only at hq; omega) (fun e => by injection e with e; simp only at e; omega)
  · exact grow_low h4 (lo := w.heap.size) ((Below.refl _ _).setCell (by simp only; omega) _) (Nat.le_refl _)
theorem Fd.setU (F : Fd w wr lo g Bq b A c f) (x : Int) : Fd w (wr.setCell ⟨b, 0, none⟩ (.int .i64 x)) lo g Bq b A c ⟨x, f.lower, f.rods⟩ := by
  have hb := F.hb
  have hc := F.curSet (p := ⟨b, 0, none⟩) (by simp only; omega) (.int .i64 x)
  exact ⟨F.row.setNe (fun q hq e => F.na (by rw [hq, ← e])) _, F.box.set_ 0 (by simp) _, F.res.setOther (by simp only; omega) _, F.na, hb, hc.1, hc.2, F.glt⟩
theorem Fd.setL (F : Fd w wr lo g Bq b A c f) (x : Int) : Fd w (wr.setCell ⟨b, 1, none⟩ (.int .i64 x)) lo g Bq b A c ⟨f.upper, x, f.rods⟩ := by
  have hb := F.hb
  have hc := F.curSet (p := ⟨b, 1, none⟩) (by simp only; omega) (.int .i64 x)
  exact ⟨F.row.setNe (fun q hq e => F.na (by rw [hq, ← e])) _, F.box.set_ 1 (by simp) _, F.res.setOther (by simp only; omega) _, F.na, hb, hc.1, hc.2, F.glt⟩
theorem Fd.setRod {q k : Nat} (F : Fd w wr lo g Bq b (some ⟨q, 0, none⟩) c f) (hk : k < f.rods.length) (x y : Int) :
    Fd w ((wr.setCell ⟨q, k * 2, none⟩ (.int .i64 x)).setCell ⟨q, k * 2 + 1, none⟩ (.int .i64 y)) lo g Bq b (some ⟨q, 0, none⟩) c ⟨f.upper, f.lower, f.rods.set k (x, y)⟩ := by
  have hq := (F.row.lt q rfl).1
  have hqb : q ≠ b := fun e => F.na (by rw [← e]; rfl)
  have hc : Cg w wr lo g Bq := ⟨F.cur, F.gro, F.glt⟩
  have h2 := (hc.set (p := ⟨q, k * 2, none⟩) (by simp only; omega) (.int .i64 x)).set (p := ⟨q, k * 2 + 1, none⟩) (by simp only; omega) (.int .i64 y)
  have hbx := (F.box.setOther (p := ⟨q, k * 2, none⟩) hqb (.int .i64 x)).setOther (p := ⟨q, k * 2 + 1, none⟩) hqb (.int .i64 y)
  refine ⟨MoveC.row_setRod F.row hk x y, ?_, (F.res.setOther (p := ⟨q, k * 2, none⟩) (by simp only; omega) _).setOther (p := ⟨q, k * 2 + 1, none⟩) (by simp only; omega) _, F.na, F.hb, h2.cur, h2.gro, F.glt⟩
  rw [List.length_set]; exact hbx
theorem lenAt_own {w : World} {b k n c : Nat} {A : Option Addr} (h : w.cell? ⟨b, k, none⟩ = some (.slice A n c)) : lenAt w b k = n := by simp [lenAt, h]
theorem Fd.rodAt {q k : Nat} (F : Fd w wr lo g Bq b (some ⟨q, 0, none⟩) c f) (hk : k < f.rods.length) : (∀ j, wr.frozen? ⟨q, j, none⟩ = false) ∧ ∃ x y, wr.cell? ⟨q, k * 2, none⟩ = some (.int .i64 x) ∧ wr.cell? ⟨q, k * 2 + 1, none⟩ = some (.int .i64 y) := by
  obtain ⟨g2, e, _, _, h1, h2, h3⟩ := F.row.rod hk
  have e2 : q = g2 := by injection e with e; injection e
  subst e2
  exact ⟨h1, _, _, h2, h3⟩
theorem Fd.fin {B0 n : Nat} (F : Fd w wr lo g Bq b A c f) (hB : Bq ≤ B0 + n) (u v x : Value) :
    K.Rd (((wr.setCell ⟨w.heap.size, 0, none⟩ u).setCell ⟨w.heap.size, 1, none⟩ v).setCell ⟨w.heap.size, 2, none⟩ x) 2 A f.rods.length (f.rods.flatMap M.rodCells) ∧ (∀ q, K.blk A = some q → w.heap.size ≤ q) ∧ K.Went w lo g B0 n (((wr.setCell ⟨w.heap.size, 0, none⟩ u).setCell ⟨w.heap.size, 1, none⟩ v).setCell ⟨w.heap.size, 2, none⟩ x) := by
  have hc : Cg w wr lo g Bq := ⟨F.cur, F.gro, F.glt⟩
  exact ⟨(((F.row.setOther (p := ⟨w.heap.size, 0, none⟩) (by simp only; omega) u).setOther (p := ⟨w.heap.size, 1, none⟩) (by simp only; omega) v).setOther (p := ⟨w.heap.size, 2, none⟩) (by simp only; omega) x).rd, (fun q hq => by have := (F.row.lt q hq).1; omega), (((hc.set (p := ⟨w.heap.size, 0, none⟩) (Nat.le_refl _) u).set (p := ⟨w.heap.size, 1, none⟩) (Nat.le_refl _) v).set (p := ⟨w.heap.size, 2, none⟩) (Nat.le_refl _) x).fin hB⟩
end
set_option maxRecDepth 100000 in
set_option maxHeartbeats 8000000 in
theorem frame (w : World) (lo g B : Nat) (h : K.Cur w lo g B) (hB : B ≤ 1000000) :
    Calls Try.prog 83 #[.pointer (some ⟨g, 0, none⟩)] w fun e w' => ∃ (A : Option Addr) (c : Nat) (f : M.Frame), e = .returned (.agg #[.int .i64 f.upper, .int .i64 f.lower, .slice A f.rods.length c]) ∧ f.rods.length ≤ 9 ∧ K.Rd w' 2 A f.rods.length (f.rods.flatMap M.rodCells) ∧ (∀ q, K.blk A = some q → w.heap.size ≤ q) ∧ K.Went w lo g B 100 w' := by
  obtain ⟨i0, hi0, hz0, hz1, hz2⟩ := info_parts Pair.info2
  have hglt := h.lt.2
  have C := Lib.hid (show K.Cur (w.alloc (.cells #[.int .i64 0, .int .i64 0, .slice none 0 0] 33)) lo g B from h.alloc _)
  have Z := Lib.hid (K.Own.new w #[.int .i64 0, .int .i64 0, .slice none 0 0] 33)
  have G := Lib.hid (show w.grownBy (w.alloc (.cells #[.int .i64 0, .int .i64 0, .slice none 0 0] 33)) (some g) from K.grown_below ((Below.refl _ _).alloc (Nat.le_refl _) _) _)
  clear h
  go_enter Try.func83, Try.ntmps83
  go_wp2_with fail
  refine (Cur.pick _ lo g _ 2 C.out (by omega)).mono ?_
  rintro e w1 ⟨x, rfl, ⟨x0, x1⟩, q1⟩
  replace Z := Lib.hid (Z.out.kept q1.2 (fun e => by injection e with e; omega))
  replace G := Lib.hid (K.grown_trans G.out q1.2)
  replace C := Lib.hid q1.1
  clear q1
  go_wp2_with fail
  refine (Cur.pick _ lo g _ 2 C.out (by omega)).mono ?_
  rintro e w2 ⟨y, rfl, ⟨y0, y1⟩, q2⟩
  replace Z := Lib.hid (Z.out.kept q2.2 (fun e => by injection e with e; omega))
  replace G := Lib.hid (K.grown_trans G.out q2.2)
  replace C := Lib.hid q2.1
  clear q2
  have hwx : IntKind.i64.wrap (1 + x) = 1 + x := IntWalk.i64_in _ (by omega)
  have hwy : IntKind.i64.wrap (4 + y) = 4 + y := IntWalk.i64_in _ (by omega)
  skip
  have hzw := Z.out.1.1
  have HF : Hid (Fd w ((w2.alloc (.cells #[] 74)).alloc (.cells #[.int .i64 (1 + x), .int .i64 (4 + y), .slice (some ⟨w2.heap.size, 0, none⟩) 0 0] 33)) lo g (B + 2 + 2) (w2.heap.size + 1) (some ⟨w2.heap.size, 0, none⟩) 0 ⟨1 + x, 4 + y, []⟩) := Lib.hid ⟨(MoveC.row_made2 w2 (w.heap.size + 1) (by omega)).alloc _, (by have h := K.Own.new (w2.alloc (.cells #[] 74)) #[.int .i64 (1 + x), .int .i64 (4 + y), .slice (some ⟨w2.heap.size, 0, none⟩) 0 0] 33; rw [World.size_alloc] at h; exact h), (Z.out.alloc _).alloc _, (by simp [K.blk]), (by omega), (C.out.alloc _).alloc _, K.grown_trans G.out (K.grown_below (((Below.refl _ _).alloc (Nat.le_refl _) _).alloc (by simp) _) _), hglt⟩
  clear C Z G
  go_wp2_with fail
  refine (Cur.pick _ lo g _ 5 HF.out.cur (by omega)).mono ?_
  rintro e w3 ⟨n0, rfl, ⟨n1, n2⟩, q3⟩
  have HG := Lib.hid (HF.out.went q3)
  clear q3 HF
  have hwn : IntKind.i64.wrap (1 + n0) = 1 + n0 := IntWalk.i64_in _ (by omega)
  obtain ⟨m0, hm0⟩ : ∃ m : Nat, 1 + n0 = (m : Int) := ⟨(1 + n0).toNat, by omega⟩
  rw [hm0] at hwn
  have hm1 : 1 ≤ m0 := by omega
  have hm5 : m0 ≤ 5 := by omega
  generalize w2.heap.size + 1 = b at *
  skip
  go_wp2_with fail
  go_loopw [4] (fun n wr => ∃ (m : Nat) (A : Option Addr) (c : Nat) (rods : List (Int × Int)), m ≤ 5 ∧ n = .int .i64 (m : Int) ∧ m + rods.length ≤ 5 ∧ 1 ≤ m + rods.length ∧ Hid (Fd w wr lo g (B + 6 + 4 * rods.length) b A c ⟨1 + x, 4 + y, rods⟩)) (fun n _ => (intOf n).toNat)
  case atStart => exact ⟨m0, _, _, [], hm5, by first | rfl | rw [hm0], by simpa using hm5, by simpa using hm1, Lib.hid (HG.out.more (by simp))⟩
  case round =>
    clear HG hwn hm0 hm1 hm5 hzw
    obtain ⟨m, A, c, rods, hm, rfl, hmr, hmr1, HF⟩ := hrel
    cases m with
    | succ m =>
      have hp0 : (0 : Int) < ((m + 1 : Nat) : Int) := by omega
      have hrm : rods.length + 1 ≤ maxLen := by simp only [maxLen]; omega
      go_upto_region 5 with fail
      obtain ⟨W5, hW5⟩ : ∃ X, X = wr.drew := ⟨_, rfl⟩
      have F0 := Lib.hid (show Fd w W5 lo g (B + 6 + 4 * rods.length) b A c ⟨1 + x, 4 + y, rods⟩ by rw [hW5]; exact HF.out.drew)
      have hx2 : IntKind.i64.wrap (1 + x + 1) = 1 + x + 1 := IntWalk.i64_in _ (by omega)
      have hy2 : IntKind.i64.wrap (4 + y + 1) = 4 + y + 1 := IntWalk.i64_in _ (by omega)
      refine wp_region_held_drew (S := fun w' => w'.cell? ⟨b, 0, none⟩ = some (.int .i64 (1 + x)) ∧ w'.cell? ⟨b, 1, none⟩ = some (.int .i64 (4 + y))) (by kernel_rfl) (by rw [← hW5]; exact ⟨F0.out.box.c3.1, F0.out.box.c3.2.1⟩) (fun hHeld => ?_)
      rw [← hW5] at hHeld ⊢
      clear hW5 HF
      refine K.takeL 0 (v := ?_) rfl (by kernel_rfl) (by kernel_rfl) (by kernel_rfl) (fun _ _ _ h => h) (Or.inl ⟨rfl, ?_⟩) (by assumption) ?_
      rotate_left
      · intro w hSw; (try dsimp only at hSw); first | (go_simp; done) | (go_simp; with_reducible rfl)
      simp only [Act.put, List.setIfInBounds_toArray, List.set_cons_zero, List.set_cons_succ]
      refine K.takeL 2 (v := ?_) rfl (by kernel_rfl) (by kernel_rfl) (by kernel_rfl) (fun _ _ _ h => h) (Or.inl ⟨rfl, ?_⟩) (by assumption) ?_
      rotate_left
      · intro w hSw; (try dsimp only at hSw); first | (go_simp; done) | (go_simp; with_reducible rfl)
      simp only [Act.put, List.setIfInBounds_toArray, List.set_cons_zero, List.set_cons_succ]
      refine K.takeL 3 (v := ?_) rfl (by kernel_rfl) (by kernel_rfl) (by kernel_rfl) (fun _ _ _ h => h) (Or.inl ⟨rfl, ?_⟩) (by assumption) ?_
      rotate_left
      · intro w hSw; (try dsimp only at hSw); first | (go_simp; done) | (go_simp; with_reducible rfl)
      simp only [Act.put, List.setIfInBounds_toArray, List.set_cons_zero, List.set_cons_succ]
      refine K.takeL 4 (v := ?_) rfl (by kernel_rfl) (by kernel_rfl) (by kernel_rfl) (fun _ _ _ h => h) (Or.inl ⟨rfl, ?_⟩) (by assumption) ?_
      rotate_left
      · intro w hSw; (try dsimp only at hSw); first | (go_simp; done) | (go_simp; with_reducible rfl)
      simp only [Act.put, List.setIfInBounds_toArray, List.set_cons_zero, List.set_cons_succ]
      refine K.takeL 5 (v := ?_) rfl (by kernel_rfl) (by kernel_rfl) (by kernel_rfl) (fun _ _ _ h => h) (Or.inl ⟨rfl, ?_⟩) (by assumption) ?_
      rotate_left
      · intro w hSw; (try dsimp only at hSw); first | (go_simp; done) | (go_simp; with_reducible rfl)
      simp only [Act.put, List.setIfInBounds_toArray, List.set_cons_zero, List.set_cons_succ]
      refine K.takeL 7 (v := ?_) rfl (by kernel_rfl) (by kernel_rfl) (by kernel_rfl) (fun _ _ _ h => h) (Or.inl ⟨rfl, ?_⟩) (by assumption) ?_
      rotate_left
      · intro w hSw; (try dsimp only at hSw); first | (go_simp; done) | (go_simp; with_reducible rfl)
      simp only [Act.put, List.setIfInBounds_toArray, List.set_cons_zero, List.set_cons_succ]
      refine K.takeL 8 (v := ?_) rfl (by kernel_rfl) (by kernel_rfl) (by kernel_rfl) (fun _ _ _ h => h) (Or.inl ⟨rfl, ?_⟩) (by assumption) ?_
      rotate_left
      · intro w hSw; (try dsimp only at hSw); first | (go_simp; done) | (go_simp; with_reducible rfl)
      simp only [Act.put, List.setIfInBounds_toArray, List.set_cons_zero, List.set_cons_succ]
      refine K.takeL 9 (v := ?_) rfl (by kernel_rfl) (by kernel_rfl) (by kernel_rfl) (fun _ _ _ h => h) (Or.inl ⟨rfl, ?_⟩) (by assumption) ?_
      rotate_left
      · intro w hSw; (try dsimp only at hSw); first | (go_simp; done) | (go_simp; with_reducible rfl)
      simp only [Act.put, List.setIfInBounds_toArray, List.set_cons_zero, List.set_cons_succ]
      refine K.takeL 10 (v := ?_) rfl (by kernel_rfl) (by kernel_rfl) (by kernel_rfl) (fun _ _ _ h => h) (Or.inl ⟨rfl, ?_⟩) (by assumption) ?_
      rotate_left
      · intro w hSw; (try dsimp only at hSw); first | (go_simp; done) | (go_simp; with_reducible rfl)
      simp only [Act.put, List.setIfInBounds_toArray, List.set_cons_zero, List.set_cons_succ]
      refine wpAnyH_ready (rs := [1, 6]) (by kernel_rfl) (by simp) (AllReadyH.cons (by rfl) (fun KK hK => ?_) (AllReadyH.cons (by rfl) (fun KK hK => ?_) AllReadyH.nil))
      · skip
        obtain ⟨b0, b1, b2, b3, b4, b5, b6⟩ := F0.out.box.c3
        go_simp
        clear b0 b1 b2 b3 b4 b5 b6
        refine hK.out _ _ ⟨F0.out.box.c3.1, F0.out.box.c3.2.1⟩ (fun hHeld => ?_)
        clear hK KK
        try simp only [Act.put, List.setIfInBounds_toArray, List.set_cons_zero, List.set_cons_succ]
        refine K.consL 6 rfl (by kernel_rfl) (fun KK hK => ?_)
        go_simp
        refine (Cur.pick _ lo g _ _ F0.out.cur (by omega)).mono ?_
        rintro e v6 ⟨p6, rfl, _, q6⟩
        go_wp2_with fail
        have F6 := Lib.hid (F0.out.went q6)
        clear q6
        refine hK.out _ _ ⟨F6.out.box.c3.1, F6.out.box.c3.2.1⟩ (fun hHeld => ?_)
        clear hK KK
        try simp only [Act.put, List.setIfInBounds_toArray, List.set_cons_zero, List.set_cons_succ]
        refine K.consL 11 rfl (by kernel_rfl) (fun KK hK => ?_)
        go_simp
        refine (Cur.pick _ lo g _ _ F6.out.cur (by omega)).mono ?_
        rintro e v11 ⟨p11, rfl, _, q11⟩
        go_wp2_with fail
        have F11 := Lib.hid (F6.out.went q11)
        clear q11
        refine hK.out _ _ ⟨F11.out.box.c3.1, F11.out.box.c3.2.1⟩ (fun hHeld => ?_)
        clear hK KK
        try simp only [Act.put, List.setIfInBounds_toArray, List.set_cons_zero, List.set_cons_succ]
        refine K.takeL 12 (v := ?_) rfl (by kernel_rfl) (by kernel_rfl) (by kernel_rfl) (fun _ _ _ h => h) (Or.inl ⟨rfl, ?_⟩) (by assumption) ?_
        rotate_left
        · intro w hSw; (try dsimp only at hSw); first | (go_simp; done) | (go_simp; with_reducible rfl)
        simp only [Act.put, List.setIfInBounds_toArray, List.set_cons_zero, List.set_cons_succ]
        refine K.consL 13 rfl (by kernel_rfl) (fun KK hK => ?_)
        go_simp
        have F13 := Lib.hid (F11.out.alloc (.cells #[.int .i64 p6, .int .i64 p11] 74))
        have rn := K.Rd.new v11 #[.int .i64 p6, .int .i64 p11] 74 1 2 rfl
        have hlo13 := F13.out.box.1.1
        have hbb := F13.out.hb
        refine hK.out _ _ ⟨F13.out.box.c3.1, F13.out.box.c3.2.1⟩ (fun hHeld => ?_)
        clear hK KK
        try simp only [Act.put, List.setIfInBounds_toArray, List.set_cons_zero, List.set_cons_succ]
        refine K.consL 14 rfl (by kernel_rfl) (fun KK hK => ?_)
        refine K.stepN (by rfl) (.tmp 21) (.tmp 33) _ (by rfl) (w.heap.size + 1) _ i0 _ 2 16 Try.underlying28 hi0 hz0 hz1 hz2 rfl (by omega) A rods.length c _ (by rfl) F13.out.row (some ⟨v11.heap.size, 0, none⟩) 1 1 #[.int .i64 p6, .int .i64 p11].toList (by rfl) rn (by simp [Value.oneCell']) hrm (by omega) (by omega) ?_
        intro A5 c5 w4 hrow4 hb4 hgr4 hat4
        have own4 := Lib.hid (F13.out.grown hgr4).1
        refine hK.out _ _ ⟨own4.out.c3.1, own4.out.c3.2.1⟩ (fun hHeld => ?_)
        clear hK KK
        try simp only [Act.put, List.setIfInBounds_toArray, List.set_cons_zero, List.set_cons_succ]
        refine K.takeL 15 (v := ?_) rfl (by kernel_rfl) (by kernel_rfl) (by kernel_rfl) (fun _ _ _ h => h) (Or.inl ⟨rfl, ?_⟩) (by assumption) ?_
        rotate_left
        · intro w hSw; (try dsimp only at hSw); first | (go_simp; done) | (go_simp; with_reducible rfl)
        simp only [Act.put, List.setIfInBounds_toArray, List.set_cons_zero, List.set_cons_succ]
        refine K.consL 16 rfl (by kernel_rfl) (fun KK hK => ?_)
        obtain ⟨b0, b1, b2, b3, b4, b5, b6⟩ := own4.out.c3
        go_simp
        clear b0 b1 b2 b3 b4 b5 b6
        have F5 := Lib.hid (F13.out.push (x := p6) (y := p11) hrow4 hgr4 (fun q hq => by rcases hat4 with h | h <;> rw [h] at hq; exact Or.inl hq; injection hq with hq; exact Or.inr (by omega)))
        refine hK.out _ _ ⟨F5.out.box.c3.1, F5.out.box.c3.2.1⟩ (fun hHeld => ?_)
        clear hK KK
        try simp only [Act.put, List.setIfInBounds_toArray, List.set_cons_zero, List.set_cons_succ]
        refine wpAnyH_done (by kernel_rfl) ?_ _
        try dsimp only at F5
        clear F0 F6 F11 F13 hrow4 hb4 hgr4 hat4 own4 rn hlo13 hbb
        go_wp2_with fail
        go_roundw
        case rel => exact ⟨m, A5, c5, rods ++ [(p6, p11)], by omega, by go_num, by rw [List.length_append]; simp; omega, by rw [List.length_append]; simp; omega, Lib.hid (F5.out.more (by rw [List.length_append]; simp; omega))⟩
        case measure => first | (simp [intOf]; done) | (simp [intOf]; omega)
      · skip
        go_simp
        refine (Cur.pick _ lo g _ _ F0.out.cur (by omega)).mono ?_
        rintro e v6 ⟨p6, rfl, _, q6⟩
        go_wp2_with fail
        have F6 := Lib.hid (F0.out.went q6)
        clear q6
        refine hK.out _ _ ⟨F6.out.box.c3.1, F6.out.box.c3.2.1⟩ (fun hHeld => ?_)
        clear hK KK
        try simp only [Act.put, List.setIfInBounds_toArray, List.set_cons_zero, List.set_cons_succ]
        refine wpAnyH_ready (rs := [1, 11]) (by kernel_rfl) (by simp) (AllReadyH.cons (by rfl) (fun KK hK => ?_) (AllReadyH.cons (by rfl) (fun KK hK => ?_) AllReadyH.nil))
        · skip
          obtain ⟨b0, b1, b2, b3, b4, b5, b6⟩ := F6.out.box.c3
          go_simp
          clear b0 b1 b2 b3 b4 b5 b6
          refine hK.out _ _ ⟨F6.out.box.c3.1, F6.out.box.c3.2.1⟩ (fun hHeld => ?_)
          clear hK KK
          try simp only [Act.put, List.setIfInBounds_toArray, List.set_cons_zero, List.set_cons_succ]
          refine K.consL 11 rfl (by kernel_rfl) (fun KK hK => ?_)
          go_simp
          refine (Cur.pick _ lo g _ _ F6.out.cur (by omega)).mono ?_
          rintro e v11 ⟨p11, rfl, _, q11⟩
          go_wp2_with fail
          have F11 := Lib.hid (F6.out.went q11)
          clear q11
          refine hK.out _ _ ⟨F11.out.box.c3.1, F11.out.box.c3.2.1⟩ (fun hHeld => ?_)
          clear hK KK
          try simp only [Act.put, List.setIfInBounds_toArray, List.set_cons_zero, List.set_cons_succ]
          refine K.takeL 12 (v := ?_) rfl (by kernel_rfl) (by kernel_rfl) (by kernel_rfl) (fun _ _ _ h => h) (Or.inl ⟨rfl, ?_⟩) (by assumption) ?_
          rotate_left
          · intro w hSw; (try dsimp only at hSw); first | (go_simp; done) | (go_simp; with_reducible rfl)
          simp only [Act.put, List.setIfInBounds_toArray, List.set_cons_zero, List.set_cons_succ]
          refine K.consL 13 rfl (by kernel_rfl) (fun KK hK => ?_)
          go_simp
          have F13 := Lib.hid (F11.out.alloc (.cells #[.int .i64 p6, .int .i64 p11] 74))
          have rn := K.Rd.new v11 #[.int .i64 p6, .int .i64 p11] 74 1 2 rfl
          have hlo13 := F13.out.box.1.1
          have hbb := F13.out.hb
          refine hK.out _ _ ⟨F13.out.box.c3.1, F13.out.box.c3.2.1⟩ (fun hHeld => ?_)
          clear hK KK
          try simp only [Act.put, List.setIfInBounds_toArray, List.set_cons_zero, List.set_cons_succ]
          refine K.consL 14 rfl (by kernel_rfl) (fun KK hK => ?_)
          refine K.stepN (by rfl) (.tmp 21) (.tmp 33) _ (by rfl) (w.heap.size + 1) _ i0 _ 2 16 Try.underlying28 hi0 hz0 hz1 hz2 rfl (by omega) A rods.length c _ (by rfl) F13.out.row (some ⟨v11.heap.size, 0, none⟩) 1 1 #[.int .i64 p6, .int .i64 p11].toList (by rfl) rn (by simp [Value.oneCell']) hrm (by omega) (by omega) ?_
          intro A5 c5 w4 hrow4 hb4 hgr4 hat4
          have own4 := Lib.hid (F13.out.grown hgr4).1
          refine hK.out _ _ ⟨own4.out.c3.1, own4.out.c3.2.1⟩ (fun hHeld => ?_)
          clear hK KK
          try simp only [Act.put, List.setIfInBounds_toArray, List.set_cons_zero, List.set_cons_succ]
          refine K.takeL 15 (v := ?_) rfl (by kernel_rfl) (by kernel_rfl) (by kernel_rfl) (fun _ _ _ h => h) (Or.inl ⟨rfl, ?_⟩) (by assumption) ?_
          rotate_left
          · intro w hSw; (try dsimp only at hSw); first | (go_simp; done) | (go_simp; with_reducible rfl)
          simp only [Act.put, List.setIfInBounds_toArray, List.set_cons_zero, List.set_cons_succ]
          refine K.consL 16 rfl (by kernel_rfl) (fun KK hK => ?_)
          obtain ⟨b0, b1, b2, b3, b4, b5, b6⟩ := own4.out.c3
          go_simp
          clear b0 b1 b2 b3 b4 b5 b6
          have F5 := Lib.hid (F13.out.push (x := p6) (y := p11) hrow4 hgr4 (fun q hq => by rcases hat4 with h | h <;> rw [h] at hq; exact Or.inl hq; injection hq with hq; exact Or.inr (by omega)))
          refine hK.out _ _ ⟨F5.out.box.c3.1, F5.out.box.c3.2.1⟩ (fun hHeld => ?_)
          clear hK KK
          try simp only [Act.put, List.setIfInBounds_toArray, List.set_cons_zero, List.set_cons_succ]
          refine wpAnyH_done (by kernel_rfl) ?_ _
          try dsimp only at F5
          clear F0 F6 F11 F13 hrow4 hb4 hgr4 hat4 own4 rn hlo13 hbb
          go_wp2_with fail
          go_roundw
          case rel => exact ⟨m, A5, c5, rods ++ [(p6, p11)], by omega, by go_num, by rw [List.length_append]; simp; omega, by rw [List.length_append]; simp; omega, Lib.hid (F5.out.more (by rw [List.length_append]; simp; omega))⟩
          case measure => first | (simp [intOf]; done) | (simp [intOf]; omega)
        · skip
          go_simp
          refine (Cur.pick _ lo g _ _ F6.out.cur (by omega)).mono ?_
          rintro e v11 ⟨p11, rfl, _, q11⟩
          go_wp2_with fail
          have F11 := Lib.hid (F6.out.went q11)
          clear q11
          refine hK.out _ _ ⟨F11.out.box.c3.1, F11.out.box.c3.2.1⟩ (fun hHeld => ?_)
          clear hK KK
          try simp only [Act.put, List.setIfInBounds_toArray, List.set_cons_zero, List.set_cons_succ]
          refine K.takeL 12 (v := ?_) rfl (by kernel_rfl) (by kernel_rfl) (by kernel_rfl) (fun _ _ _ h => h) (Or.inl ⟨rfl, ?_⟩) (by assumption) ?_
          rotate_left
          · intro w hSw; (try dsimp only at hSw); first | (go_simp; done) | (go_simp; with_reducible rfl)
          simp only [Act.put, List.setIfInBounds_toArray, List.set_cons_zero, List.set_cons_succ]
          refine wpAnyH_ready (rs := [1, 13]) (by kernel_rfl) (by simp) (AllReadyH.cons (by rfl) (fun KK hK => ?_) (AllReadyH.cons (by rfl) (fun KK hK => ?_) AllReadyH.nil))
          · skip
            obtain ⟨b0, b1, b2, b3, b4, b5, b6⟩ := F11.out.box.c3
            go_simp
            clear b0 b1 b2 b3 b4 b5 b6
            refine hK.out _ _ ⟨F11.out.box.c3.1, F11.out.box.c3.2.1⟩ (fun hHeld => ?_)
            clear hK KK
            try simp only [Act.put, List.setIfInBounds_toArray, List.set_cons_zero, List.set_cons_succ]
            refine K.consL 13 rfl (by kernel_rfl) (fun KK hK => ?_)
            go_simp
            have F13 := Lib.hid (F11.out.alloc (.cells #[.int .i64 p6, .int .i64 p11] 74))
            have rn := K.Rd.new v11 #[.int .i64 p6, .int .i64 p11] 74 1 2 rfl
            have hlo13 := F13.out.box.1.1
            have hbb := F13.out.hb
            refine hK.out _ _ ⟨F13.out.box.c3.1, F13.out.box.c3.2.1⟩ (fun hHeld => ?_)
            clear hK KK
            try simp only [Act.put, List.setIfInBounds_toArray, List.set_cons_zero, List.set_cons_succ]
            refine K.consL 14 rfl (by kernel_rfl) (fun KK hK => ?_)
            refine K.stepN (by rfl) (.tmp 21) (.tmp 33) _ (by rfl) (w.heap.size + 1) _ i0 _ 2 16 Try.underlying28 hi0 hz0 hz1 hz2 rfl (by omega) A rods.length c _ (by rfl) F13.out.row (some ⟨v11.heap.size, 0, none⟩) 1 1 #[.int .i64 p6, .int .i64 p11].toList (by rfl) rn (by simp [Value.oneCell']) hrm (by omega) (by omega) ?_
            intro A5 c5 w4 hrow4 hb4 hgr4 hat4
            have own4 := Lib.hid (F13.out.grown hgr4).1
            refine hK.out _ _ ⟨own4.out.c3.1, own4.out.c3.2.1⟩ (fun hHeld => ?_)
            clear hK KK
            try simp only [Act.put, List.setIfInBounds_toArray, List.set_cons_zero, List.set_cons_succ]
            refine K.takeL 15 (v := ?_) rfl (by kernel_rfl) (by kernel_rfl) (by kernel_rfl) (fun _ _ _ h => h) (Or.inl ⟨rfl, ?_⟩) (by assumption) ?_
            rotate_left
            · intro w hSw; (try dsimp only at hSw); first | (go_simp; done) | (go_simp; with_reducible rfl)
            simp only [Act.put, List.setIfInBounds_toArray, List.set_cons_zero, List.set_cons_succ]
            refine K.consL 16 rfl (by kernel_rfl) (fun KK hK => ?_)
            obtain ⟨b0, b1, b2, b3, b4, b5, b6⟩ := own4.out.c3
            go_simp
            clear b0 b1 b2 b3 b4 b5 b6
            have F5 := Lib.hid (F13.out.push (x := p6) (y := p11) hrow4 hgr4 (fun q hq => by rcases hat4 with h | h <;> rw [h] at hq; exact Or.inl hq; injection hq with hq; exact Or.inr (by omega)))
            refine hK.out _ _ ⟨F5.out.box.c3.1, F5.out.box.c3.2.1⟩ (fun hHeld => ?_)
            clear hK KK
            try simp only [Act.put, List.setIfInBounds_toArray, List.set_cons_zero, List.set_cons_succ]
            refine wpAnyH_done (by kernel_rfl) ?_ _
            try dsimp only at F5
            clear F0 F6 F11 F13 hrow4 hb4 hgr4 hat4 own4 rn hlo13 hbb
            go_wp2_with fail
            go_roundw
            case rel => exact ⟨m, A5, c5, rods ++ [(p6, p11)], by omega, by go_num, by rw [List.length_append]; simp; omega, by rw [List.length_append]; simp; omega, Lib.hid (F5.out.more (by rw [List.length_append]; simp; omega))⟩
            case measure => first | (simp [intOf]; done) | (simp [intOf]; omega)
          · skip
            go_simp
            have F13 := Lib.hid (F11.out.alloc (.cells #[.int .i64 p6, .int .i64 p11] 74))
            have rn := K.Rd.new v11 #[.int .i64 p6, .int .i64 p11] 74 1 2 rfl
            have hlo13 := F13.out.box.1.1
            have hbb := F13.out.hb
            refine hK.out _ _ ⟨F13.out.box.c3.1, F13.out.box.c3.2.1⟩ (fun hHeld => ?_)
            clear hK KK
            try simp only [Act.put, List.setIfInBounds_toArray, List.set_cons_zero, List.set_cons_succ]
            refine K.consL 1 rfl (by kernel_rfl) (fun KK hK => ?_)
            obtain ⟨b0, b1, b2, b3, b4, b5, b6⟩ := F13.out.box.c3
            go_simp
            clear b0 b1 b2 b3 b4 b5 b6
            refine hK.out _ _ ⟨F13.out.box.c3.1, F13.out.box.c3.2.1⟩ (fun hHeld => ?_)
            clear hK KK
            try simp only [Act.put, List.setIfInBounds_toArray, List.set_cons_zero, List.set_cons_succ]
            refine K.consL 14 rfl (by kernel_rfl) (fun KK hK => ?_)
            refine K.stepN (by rfl) (.tmp 21) (.tmp 33) _ (by rfl) (w.heap.size + 1) _ i0 _ 2 16 Try.underlying28 hi0 hz0 hz1 hz2 rfl (by omega) A rods.length c _ (by rfl) F13.out.row (some ⟨v11.heap.size, 0, none⟩) 1 1 #[.int .i64 p6, .int .i64 p11].toList (by rfl) rn (by simp [Value.oneCell']) hrm (by omega) (by omega) ?_
            intro A5 c5 w4 hrow4 hb4 hgr4 hat4
            have own4 := Lib.hid (F13.out.grown hgr4).1
            refine hK.out _ _ ⟨own4.out.c3.1, own4.out.c3.2.1⟩ (fun hHeld => ?_)
            clear hK KK
            try simp only [Act.put, List.setIfInBounds_toArray, List.set_cons_zero, List.set_cons_succ]
            refine K.takeL 15 (v := ?_) rfl (by kernel_rfl) (by kernel_rfl) (by kernel_rfl) (fun _ _ _ h => h) (Or.inl ⟨rfl, ?_⟩) (by assumption) ?_
            rotate_left
            · intro w hSw; (try dsimp only at hSw); first | (go_simp; done) | (go_simp; with_reducible rfl)
            simp only [Act.put, List.setIfInBounds_toArray, List.set_cons_zero, List.set_cons_succ]
            refine K.consL 16 rfl (by kernel_rfl) (fun KK hK => ?_)
            obtain ⟨b0, b1, b2, b3, b4, b5, b6⟩ := own4.out.c3
            go_simp
            clear b0 b1 b2 b3 b4 b5 b6
            have F5 := Lib.hid (F13.out.push (x := p6) (y := p11) hrow4 hgr4 (fun q hq => by rcases hat4 with h | h <;> rw [h] at hq; exact Or.inl hq; injection hq with hq; exact Or.inr (by omega)))
            refine hK.out _ _ ⟨F5.out.box.c3.1, F5.out.box.c3.2.1⟩ (fun hHeld => ?_)
            clear hK KK
            try simp only [Act.put, List.setIfInBounds_toArray, List.set_cons_zero, List.set_cons_succ]
            refine wpAnyH_done (by kernel_rfl) ?_ _
            try dsimp only at F5
            clear F0 F6 F11 F13 hrow4 hb4 hgr4 hat4 own4 rn hlo13 hbb
            go_wp2_with fail
            go_roundw
            case rel => exact ⟨m, A5, c5, rods ++ [(p6, p11)], by omega, by go_num, by rw [List.length_append]; simp; omega, by rw [List.length_append]; simp; omega, Lib.hid (F5.out.more (by rw [List.length_append]; simp; omega))⟩
            case measure => first | (simp [intOf]; done) | (simp [intOf]; omega)
    | zero =>
      have hr5 : rods.length ≤ 5 := by omega
      have hr1 : 0 < rods.length := by omega
      clear hmr hmr1 hm
      go_wp2_with fail
      refine (Cur.pick _ lo g _ 32 HF.out.cur (by omega)).mono ?_
      rintro e w4 ⟨z, rfl, ⟨z0, z1⟩, q4⟩
      have G := Lib.hid (HF.out.went q4)
      clear q4 HF
      go_upto_block 2 with fail
      go_cut [] (fun wx => ∃ (A2 : Option Addr) (c2 : Nat) (f2 : M.Frame), f2.rods.length ≤ 9 ∧ Fd w wx lo g (B + 90) b A2 c2 f2)
      case first =>
        by_cases z0c : z = 0
        · have t0 : (z == 0) = true := by rw [beq_iff_eq]; omega
          clear z0c
          clear z0 z1
          go_upto_region 8 with fail
          obtain ⟨W8, hW8⟩ : ∃ X, X = World.drew w4 := ⟨_, rfl⟩
          have F0 := Lib.hid (show Fd w W8 lo g (B + 6 + 4 * rods.length + 2) b A c ⟨1 + x, 4 + y, rods⟩ by rw [hW8]; exact G.out.drew)
          obtain ⟨qa, eA, hql, _, _, _, _⟩ := F0.out.row.rod hr1
          subst eA
          have hr1i : (0 : Int) < (rods.length : Int) := by omega
          refine wp_region_held_drew (S := fun w' => w'.cell? ⟨b, 2, none⟩ = some (.slice (some ⟨qa, 0, none⟩) rods.length c)) (by kernel_rfl) (by rw [← hW8]; exact F0.out.box.c3.2.2.1) (fun hHeld => ?_)
          rw [← hW8] at hHeld ⊢
          clear hW8 G
          refine K.takeL 0 (v := ?_) rfl (by kernel_rfl) (by kernel_rfl) (by kernel_rfl) (fun _ _ _ h => h) (Or.inl ⟨rfl, ?_⟩) (by assumption) ?_
          rotate_left
          · intro w hSw; (try dsimp only at hSw); first | (go_simp; done) | (go_simp; with_reducible rfl)
          simp only [Act.put, List.setIfInBounds_toArray, List.set_cons_zero, List.set_cons_succ]
          refine K.takeL 1 (v := ?_) rfl (by kernel_rfl) (by kernel_rfl) (by kernel_rfl) (fun _ _ _ h => h) (Or.inl ⟨rfl, ?_⟩) (by assumption) ?_
          rotate_left
          · intro w hSw; (try dsimp only at hSw); first | (go_simp; done) | (go_simp; with_reducible rfl)
          simp only [Act.put, List.setIfInBounds_toArray, List.set_cons_zero, List.set_cons_succ]
          refine K.takeL 2 (v := ?_) rfl (by kernel_rfl) (by kernel_rfl) (by kernel_rfl) (fun _ _ _ h => h) (Or.inl ⟨rfl, ?_⟩) (by assumption) ?_
          rotate_left
          · intro w hSw; (try dsimp only at hSw); first | (go_simp; done) | (go_simp; with_reducible rfl)
          simp only [Act.put, List.setIfInBounds_toArray, List.set_cons_zero, List.set_cons_succ]
          refine K.takeL 5 (v := ?_) rfl (by kernel_rfl) (by kernel_rfl) (by kernel_rfl) (fun _ _ _ h => h) (Or.inl ⟨rfl, ?_⟩) (by assumption) ?_
          rotate_left
          · intro w hSw; (try dsimp only at hSw); first | (go_simp; done) | (go_simp; with_reducible rfl)
          simp only [Act.put, List.setIfInBounds_toArray, List.set_cons_zero, List.set_cons_succ]
          refine wpAnyH_ready (rs := [3, 6]) (by kernel_rfl) (by simp) (AllReadyH.cons (by rfl) (fun KK hK => ?_) (AllReadyH.cons (by rfl) (fun KK hK => ?_) AllReadyH.nil))
          · skip
            go_simp
            have F3 := Lib.hid (F0.out.alloc (.cells #[.int .i64 (-1), .int .i64 (0), .int .i64 (3)] 3))
            have rl3 := Lib.hid (K.Rd.new W8 #[.int .i64 (-1), .int .i64 (0), .int .i64 (3)] 3 3 1 rfl)
            have hbl3 := F0.out.box.1.1
            have hbh3 := F0.out.hb
            have ha3 : w.heap.size < W8.heap.size := by omega
            have hag3 : g ≠ W8.heap.size := by omega
            clear hbl3 hbh3
            obtain ⟨V3, hV3⟩ : ∃ X, X = W8.alloc (.cells #[.int .i64 (-1), .int .i64 (0), .int .i64 (3)] 3) := ⟨_, rfl⟩
            rw [← hV3] at F3
            rw [← hV3] at rl3
            refine hK.out _ _ (by rw [← hV3]; exact F3.out.box.c3.2.2.1) (fun hHeld => ?_)
            clear hK KK
            try simp only [Act.put, List.setIfInBounds_toArray, List.set_cons_zero, List.set_cons_succ]
            rw [← hV3] at hHeld ⊢
            clear hV3
            refine wpAnyH_ready (rs := [4, 6]) (by kernel_rfl) (by simp) (AllReadyH.cons (by rfl) (fun KK hK => ?_) (AllReadyH.cons (by rfl) (fun KK hK => ?_) AllReadyH.nil))
            · skip
              go_simp
              refine (Cur.among _ lo g _ (some ⟨W8.heap.size, 0, none⟩) 3 [-1, 0, 3] F3.out.cur (by omega) (by decide) rl3.out (fun e => hag3 (Option.some.inj e).symm)).mono ?_
              rintro e v4 ⟨p4, rfl, _, q4⟩
              go_wp2_with fail
              have F4 := Lib.hid (F3.out.went q4)
              replace rl3 := Lib.hid (rl3.out.kept q4.2 (fun q hq e => hag3 ((Option.some.inj e).trans (Option.some.inj hq).symm)))
              clear q4
              refine hK.out _ _ F4.out.box.c3.2.2.1 (fun hHeld => ?_)
              clear hK KK
              try simp only [Act.put, List.setIfInBounds_toArray, List.set_cons_zero, List.set_cons_succ]
              refine K.consL 6 rfl (by kernel_rfl) (fun KK hK => ?_)
              go_simp
              have F6 := Lib.hid (F4.out.alloc (.cells #[.int .i64 (-1), .int .i64 (0), .int .i64 (6)] 3))
              have rl6 := Lib.hid (K.Rd.new v4 #[.int .i64 (-1), .int .i64 (0), .int .i64 (6)] 3 3 1 rfl)
              have hbl6 := F4.out.box.1.1
              have hbh6 := F4.out.hb
              have ha6 : w.heap.size < v4.heap.size := by omega
              have hag6 : g ≠ v4.heap.size := by omega
              clear hbl6 hbh6
              replace rl3 := Lib.hid (rl3.out.alloc (.cells #[.int .i64 (-1), .int .i64 (0), .int .i64 (6)] 3))
              obtain ⟨V6, hV6⟩ : ∃ X, X = v4.alloc (.cells #[.int .i64 (-1), .int .i64 (0), .int .i64 (6)] 3) := ⟨_, rfl⟩
              rw [← hV6] at F6
              rw [← hV6] at rl3
              rw [← hV6] at rl6
              refine hK.out _ _ (by rw [← hV6]; exact F6.out.box.c3.2.2.1) (fun hHeld => ?_)
              clear hK KK
              try simp only [Act.put, List.setIfInBounds_toArray, List.set_cons_zero, List.set_cons_succ]
              rw [← hV6] at hHeld ⊢
              clear hV6
              refine K.consL 7 rfl (by kernel_rfl) (fun KK hK => ?_)
              go_simp
              refine (Cur.among _ lo g _ (some ⟨v4.heap.size, 0, none⟩) 3 [-1, 0, 6] F6.out.cur (by omega) (by decide) rl6.out (fun e => hag6 (Option.some.inj e).symm)).mono ?_
              rintro e v7 ⟨p7, rfl, _, q7⟩
              go_wp2_with fail
              have F7 := Lib.hid (F6.out.went q7)
              replace rl3 := Lib.hid (rl3.out.kept q7.2 (fun q hq e => hag3 ((Option.some.inj e).trans (Option.some.inj hq).symm)))
              replace rl6 := Lib.hid (rl6.out.kept q7.2 (fun q hq e => hag6 ((Option.some.inj e).trans (Option.some.inj hq).symm)))
              clear q7
              refine hK.out _ _ F7.out.box.c3.2.2.1 (fun hHeld => ?_)
              clear hK KK
              try simp only [Act.put, List.setIfInBounds_toArray, List.set_cons_zero, List.set_cons_succ]
              refine K.takeL 8 (v := ?_) rfl (by kernel_rfl) (by kernel_rfl) (by kernel_rfl) (fun _ _ _ h => h) (Or.inl ⟨rfl, ?_⟩) (by assumption) ?_
              rotate_left
              · intro w hSw; (try dsimp only at hSw); first | (go_simp; done) | (go_simp; with_reducible rfl)
              simp only [Act.put, List.setIfInBounds_toArray, List.set_cons_zero, List.set_cons_succ]
              refine K.takeL 9 (v := ?_) rfl (by kernel_rfl) (by kernel_rfl) (by kernel_rfl) (fun _ _ _ h => h) (Or.inl ⟨rfl, ?_⟩) (by assumption) ?_
              rotate_left
              · intro w hSw; (try dsimp only at hSw); first | (go_simp; done) | (go_simp; with_reducible rfl)
              simp only [Act.put, List.setIfInBounds_toArray, List.set_cons_zero, List.set_cons_succ]
              refine K.consL 10 rfl (by kernel_rfl) (fun KK hK => ?_)
              obtain ⟨fz, _, _, d0, d1⟩ := F7.out.rodAt hr1
              have f0 := fz 0
              have f1 := fz 1
              simp only [Nat.zero_mul, Nat.zero_add] at d0 d1
              go_simp
              clear f0 f1 fz d0 d1
              have F10 := Lib.hid (F7.out.setRod hr1 p4 p7)
              simp only [Nat.zero_mul, Nat.zero_add] at F10
              refine hK.out _ _ (by have h := F10.out.box.c3.2.2.1; simpa using h) (fun hHeld => ?_)
              clear hK KK
              try simp only [Act.put, List.setIfInBounds_toArray, List.set_cons_zero, List.set_cons_succ]
              refine wpAnyH_done (by kernel_rfl) ?_ _
              have hl5 : (rods.set 0 (p4, p7)).length = rods.length := List.length_set
              go_wp2_with fail
              go_meet
              exact ⟨_, _, _, by show (rods.set 0 (p4, p7)).length ≤ 9; omega, F10.out.more (by omega)⟩
            · skip
              go_simp
              have F6 := Lib.hid (F3.out.alloc (.cells #[.int .i64 (-1), .int .i64 (0), .int .i64 (6)] 3))
              have rl6 := Lib.hid (K.Rd.new V3 #[.int .i64 (-1), .int .i64 (0), .int .i64 (6)] 3 3 1 rfl)
              have hbl6 := F3.out.box.1.1
              have hbh6 := F3.out.hb
              have ha6 : w.heap.size < V3.heap.size := by omega
              have hag6 : g ≠ V3.heap.size := by omega
              clear hbl6 hbh6
              replace rl3 := Lib.hid (rl3.out.alloc (.cells #[.int .i64 (-1), .int .i64 (0), .int .i64 (6)] 3))
              obtain ⟨V6, hV6⟩ : ∃ X, X = V3.alloc (.cells #[.int .i64 (-1), .int .i64 (0), .int .i64 (6)] 3) := ⟨_, rfl⟩
              rw [← hV6] at F6
              rw [← hV6] at rl3
              rw [← hV6] at rl6
              refine hK.out _ _ (by rw [← hV6]; exact F6.out.box.c3.2.2.1) (fun hHeld => ?_)
              clear hK KK
              try simp only [Act.put, List.setIfInBounds_toArray, List.set_cons_zero, List.set_cons_succ]
              rw [← hV6] at hHeld ⊢
              clear hV6
              refine K.consL 4 rfl (by kernel_rfl) (fun KK hK => ?_)
              go_simp
              refine (Cur.among _ lo g _ (some ⟨W8.heap.size, 0, none⟩) 3 [-1, 0, 3] F6.out.cur (by omega) (by decide) rl3.out (fun e => hag3 (Option.some.inj e).symm)).mono ?_
              rintro e v4 ⟨p4, rfl, _, q4⟩
              go_wp2_with fail
              have F4 := Lib.hid (F6.out.went q4)
              replace rl3 := Lib.hid (rl3.out.kept q4.2 (fun q hq e => hag3 ((Option.some.inj e).trans (Option.some.inj hq).symm)))
              replace rl6 := Lib.hid (rl6.out.kept q4.2 (fun q hq e => hag6 ((Option.some.inj e).trans (Option.some.inj hq).symm)))
              clear q4
              refine hK.out _ _ F4.out.box.c3.2.2.1 (fun hHeld => ?_)
              clear hK KK
              try simp only [Act.put, List.setIfInBounds_toArray, List.set_cons_zero, List.set_cons_succ]
              refine K.consL 7 rfl (by kernel_rfl) (fun KK hK => ?_)
              go_simp
              refine (Cur.among _ lo g _ (some ⟨V3.heap.size, 0, none⟩) 3 [-1, 0, 6] F4.out.cur (by omega) (by decide) rl6.out (fun e => hag6 (Option.some.inj e).symm)).mono ?_
              rintro e v7 ⟨p7, rfl, _, q7⟩
              go_wp2_with fail
              have F7 := Lib.hid (F4.out.went q7)
              replace rl3 := Lib.hid (rl3.out.kept q7.2 (fun q hq e => hag3 ((Option.some.inj e).trans (Option.some.inj hq).symm)))
              replace rl6 := Lib.hid (rl6.out.kept q7.2 (fun q hq e => hag6 ((Option.some.inj e).trans (Option.some.inj hq).symm)))
              clear q7
              refine hK.out _ _ F7.out.box.c3.2.2.1 (fun hHeld => ?_)
              clear hK KK
              try simp only [Act.put, List.setIfInBounds_toArray, List.set_cons_zero, List.set_cons_succ]
              refine K.takeL 8 (v := ?_) rfl (by kernel_rfl) (by kernel_rfl) (by kernel_rfl) (fun _ _ _ h => h) (Or.inl ⟨rfl, ?_⟩) (by assumption) ?_
              rotate_left
              · intro w hSw; (try dsimp only at hSw); first | (go_simp; done) | (go_simp; with_reducible rfl)
              simp only [Act.put, List.setIfInBounds_toArray, List.set_cons_zero, List.set_cons_succ]
              refine K.takeL 9 (v := ?_) rfl (by kernel_rfl) (by kernel_rfl) (by kernel_rfl) (fun _ _ _ h => h) (Or.inl ⟨rfl, ?_⟩) (by assumption) ?_
              rotate_left
              · intro w hSw; (try dsimp only at hSw); first | (go_simp; done) | (go_simp; with_reducible rfl)
              simp only [Act.put, List.setIfInBounds_toArray, List.set_cons_zero, List.set_cons_succ]
              refine K.consL 10 rfl (by kernel_rfl) (fun KK hK => ?_)
              obtain ⟨fz, _, _, d0, d1⟩ := F7.out.rodAt hr1
              have f0 := fz 0
              have f1 := fz 1
              simp only [Nat.zero_mul, Nat.zero_add] at d0 d1
              go_simp
              clear f0 f1 fz d0 d1
              have F10 := Lib.hid (F7.out.setRod hr1 p4 p7)
              simp only [Nat.zero_mul, Nat.zero_add] at F10
              refine hK.out _ _ (by have h := F10.out.box.c3.2.2.1; simpa using h) (fun hHeld => ?_)
              clear hK KK
              try simp only [Act.put, List.setIfInBounds_toArray, List.set_cons_zero, List.set_cons_succ]
              refine wpAnyH_done (by kernel_rfl) ?_ _
              have hl5 : (rods.set 0 (p4, p7)).length = rods.length := List.length_set
              go_wp2_with fail
              go_meet
              exact ⟨_, _, _, by show (rods.set 0 (p4, p7)).length ≤ 9; omega, F10.out.more (by omega)⟩
          · skip
            go_simp
            have F6 := Lib.hid (F0.out.alloc (.cells #[.int .i64 (-1), .int .i64 (0), .int .i64 (6)] 3))
            have rl6 := Lib.hid (K.Rd.new W8 #[.int .i64 (-1), .int .i64 (0), .int .i64 (6)] 3 3 1 rfl)
            have hbl6 := F0.out.box.1.1
            have hbh6 := F0.out.hb
            have ha6 : w.heap.size < W8.heap.size := by omega
            have hag6 : g ≠ W8.heap.size := by omega
            clear hbl6 hbh6
            obtain ⟨V6, hV6⟩ : ∃ X, X = W8.alloc (.cells #[.int .i64 (-1), .int .i64 (0), .int .i64 (6)] 3) := ⟨_, rfl⟩
            rw [← hV6] at F6
            rw [← hV6] at rl6
            refine hK.out _ _ (by rw [← hV6]; exact F6.out.box.c3.2.2.1) (fun hHeld => ?_)
            clear hK KK
            try simp only [Act.put, List.setIfInBounds_toArray, List.set_cons_zero, List.set_cons_succ]
            rw [← hV6] at hHeld ⊢
            clear hV6
            refine K.consL 3 rfl (by kernel_rfl) (fun KK hK => ?_)
            go_simp
            have F3 := Lib.hid (F6.out.alloc (.cells #[.int .i64 (-1), .int .i64 (0), .int .i64 (3)] 3))
            have rl3 := Lib.hid (K.Rd.new V6 #[.int .i64 (-1), .int .i64 (0), .int .i64 (3)] 3 3 1 rfl)
            have hbl3 := F6.out.box.1.1
            have hbh3 := F6.out.hb
            have ha3 : w.heap.size < V6.heap.size := by omega
            have hag3 : g ≠ V6.heap.size := by omega
            clear hbl3 hbh3
            replace rl6 := Lib.hid (rl6.out.alloc (.cells #[.int .i64 (-1), .int .i64 (0), .int .i64 (3)] 3))
            obtain ⟨V3, hV3⟩ : ∃ X, X = V6.alloc (.cells #[.int .i64 (-1), .int .i64 (0), .int .i64 (3)] 3) := ⟨_, rfl⟩
            rw [← hV3] at F3
            rw [← hV3] at rl6
            rw [← hV3] at rl3
            refine hK.out _ _ (by rw [← hV3]; exact F3.out.box.c3.2.2.1) (fun hHeld => ?_)
            clear hK KK
            try simp only [Act.put, List.setIfInBounds_toArray, List.set_cons_zero, List.set_cons_succ]
            rw [← hV3] at hHeld ⊢
            clear hV3
            refine K.consL 4 rfl (by kernel_rfl) (fun KK hK => ?_)
            go_simp
            refine (Cur.among _ lo g _ (some ⟨V6.heap.size, 0, none⟩) 3 [-1, 0, 3] F3.out.cur (by omega) (by decide) rl3.out (fun e => hag3 (Option.some.inj e).symm)).mono ?_
            rintro e v4 ⟨p4, rfl, _, q4⟩
            go_wp2_with fail
            have F4 := Lib.hid (F3.out.went q4)
            replace rl6 := Lib.hid (rl6.out.kept q4.2 (fun q hq e => hag6 ((Option.some.inj e).trans (Option.some.inj hq).symm)))
            replace rl3 := Lib.hid (rl3.out.kept q4.2 (fun q hq e => hag3 ((Option.some.inj e).trans (Option.some.inj hq).symm)))
            clear q4
            refine hK.out _ _ F4.out.box.c3.2.2.1 (fun hHeld => ?_)
            clear hK KK
            try simp only [Act.put, List.setIfInBounds_toArray, List.set_cons_zero, List.set_cons_succ]
            refine K.consL 7 rfl (by kernel_rfl) (fun KK hK => ?_)
            go_simp
            refine (Cur.among _ lo g _ (some ⟨W8.heap.size, 0, none⟩) 3 [-1, 0, 6] F4.out.cur (by omega) (by decide) rl6.out (fun e => hag6 (Option.some.inj e).symm)).mono ?_
            rintro e v7 ⟨p7, rfl, _, q7⟩
            go_wp2_with fail
            have F7 := Lib.hid (F4.out.went q7)
            replace rl6 := Lib.hid (rl6.out.kept q7.2 (fun q hq e => hag6 ((Option.some.inj e).trans (Option.some.inj hq).symm)))
            replace rl3 := Lib.hid (rl3.out.kept q7.2 (fun q hq e => hag3 ((Option.some.inj e).trans (Option.some.inj hq).symm)))
            clear q7
            refine hK.out _ _ F7.out.box.c3.2.2.1 (fun hHeld => ?_)
            clear hK KK
            try simp only [Act.put, List.setIfInBounds_toArray, List.set_cons_zero, List.set_cons_succ]
            refine K.takeL 8 (v := ?_) rfl (by kernel_rfl) (by kernel_rfl) (by kernel_rfl) (fun _ _ _ h => h) (Or.inl ⟨rfl, ?_⟩) (by assumption) ?_
            rotate_left
            · intro w hSw; (try dsimp only at hSw); first | (go_simp; done) | (go_simp; with_reducible rfl)
            simp only [Act.put, List.setIfInBounds_toArray, List.set_cons_zero, List.set_cons_succ]
            refine K.takeL 9 (v := ?_) rfl (by kernel_rfl) (by kernel_rfl) (by kernel_rfl) (fun _ _ _ h => h) (Or.inl ⟨rfl, ?_⟩) (by assumption) ?_
            rotate_left
            · intro w hSw; (try dsimp only at hSw); first | (go_simp; done) | (go_simp; with_reducible rfl)
            simp only [Act.put, List.setIfInBounds_toArray, List.set_cons_zero, List.set_cons_succ]
            refine K.consL 10 rfl (by kernel_rfl) (fun KK hK => ?_)
            obtain ⟨fz, _, _, d0, d1⟩ := F7.out.rodAt hr1
            have f0 := fz 0
            have f1 := fz 1
            simp only [Nat.zero_mul, Nat.zero_add] at d0 d1
            go_simp
            clear f0 f1 fz d0 d1
            have F10 := Lib.hid (F7.out.setRod hr1 p4 p7)
            simp only [Nat.zero_mul, Nat.zero_add] at F10
            refine hK.out _ _ (by have h := F10.out.box.c3.2.2.1; simpa using h) (fun hHeld => ?_)
            clear hK KK
            try simp only [Act.put, List.setIfInBounds_toArray, List.set_cons_zero, List.set_cons_succ]
            refine wpAnyH_done (by kernel_rfl) ?_ _
            have hl5 : (rods.set 0 (p4, p7)).length = rods.length := List.length_set
            go_wp2_with fail
            go_meet
            exact ⟨_, _, _, by show (rods.set 0 (p4, p7)).length ≤ 9; omega, F10.out.more (by omega)⟩
        have t0 : (z == 0) = false := by rw [beq_eq_false_iff_ne]; omega
        by_cases z1c : z = 1
        · have t1 : (z == 1) = true := by rw [beq_iff_eq]; omega
          clear z1c
          clear z0 z1
          have rl := Lib.hid (K.Rd.new w4 #[.int .i64 (0), .int .i64 (3)] 3 2 1 rfl)
          have hbl := G.out.box.1.1
          have hbh := G.out.hb
          have HGA := Lib.hid (G.out.alloc (.cells #[.int .i64 (0), .int .i64 (3)] 3))
          go_wp2_with fail
          refine (Cur.among _ lo g _ (some ⟨w4.heap.size, 0, none⟩) 2 [0, 3] HGA.out.cur (by omega) (by decide) rl.out (fun e => by simp [K.blk] at e; omega)).mono ?_
          rintro e w5 ⟨v, rfl, _, q5⟩
          have G5 := Lib.hid (HGA.out.went q5)
          clear q5 rl HGA G
          have G6 := Lib.hid (G5.out.setU v)
          obtain ⟨b0, b1, b2, b3, b4, b5, b6⟩ := G5.out.box.c3
          go_wp2_with fail
          go_meet
          exact ⟨_, _, _, by show rods.length ≤ 9; omega, G6.out.more (by omega)⟩
        have t1 : (z == 1) = false := by rw [beq_eq_false_iff_ne]; omega
        by_cases z2c : z = 2
        · have t2 : (z == 2) = true := by rw [beq_iff_eq]; omega
          clear z2c
          clear z0 z1
          have rl := Lib.hid (K.Rd.new w4 #[.int .i64 (3), .int .i64 (6)] 3 2 1 rfl)
          have hbl := G.out.box.1.1
          have hbh := G.out.hb
          have HGA := Lib.hid (G.out.alloc (.cells #[.int .i64 (3), .int .i64 (6)] 3))
          go_wp2_with fail
          refine (Cur.among _ lo g _ (some ⟨w4.heap.size, 0, none⟩) 2 [3, 6] HGA.out.cur (by omega) (by decide) rl.out (fun e => by simp [K.blk] at e; omega)).mono ?_
          rintro e w5 ⟨v, rfl, _, q5⟩
          have G5 := Lib.hid (HGA.out.went q5)
          clear q5 rl HGA G
          have G6 := Lib.hid (G5.out.setL v)
          obtain ⟨b0, b1, b2, b3, b4, b5, b6⟩ := G5.out.box.c3
          go_wp2_with fail
          go_meet
          exact ⟨_, _, _, by show rods.length ≤ 9; omega, G6.out.more (by omega)⟩
        have t2 : (z == 2) = false := by rw [beq_eq_false_iff_ne]; omega
        by_cases z3c : z = 3
        · have t3 : (z == 3) = true := by rw [beq_iff_eq]; omega
          clear z3c
          clear z0 z1
          go_wp2_with fail
          go_loopw [] (fun wr => ∃ (A : Option Addr) (c : Nat) (rods : List (Int × Int)), 0 < rods.length ∧ rods.length ≤ 9 ∧ Hid (Fd w wr lo g (B + 30 + 4 * rods.length) b A c ⟨1 + x, 4 + y, rods⟩)) (fun wr => 10 - lenAt wr b 2)
          case atStart => exact ⟨_, _, rods, hr1, by omega, Lib.hid (G.out.more (by omega))⟩
          case round =>
            clear G hr1 hr5
            obtain ⟨A, c, rods, hr1, hr9, G⟩ := hrel
            try rename World => wr
            go_upto_region 14 with fail
            obtain ⟨W8, hW8⟩ : ∃ X, X = World.drew wr := ⟨_, rfl⟩
            have F0 := Lib.hid (show Fd w W8 lo g (B + 30 + 4 * rods.length) b A c ⟨1 + x, 4 + y, rods⟩ by rw [hW8]; exact G.out.drew)
            refine wp_region_held_drew (S := fun w' => w'.cell? ⟨b, 2, none⟩ = some (.slice A rods.length c)) (by kernel_rfl) (by rw [← hW8]; exact F0.out.box.c3.2.2.1) (fun hHeld => ?_)
            rw [← hW8] at hHeld ⊢
            clear hW8
            refine K.takeL 0 (v := ?_) rfl (by kernel_rfl) (by kernel_rfl) (by kernel_rfl) (fun _ _ _ h => h) (Or.inl ⟨rfl, ?_⟩) (by assumption) ?_
            rotate_left
            · intro w hSw; (try dsimp only at hSw); first | (go_simp; done) | (go_simp; with_reducible rfl)
            simp only [Act.put, List.setIfInBounds_toArray, List.set_cons_zero, List.set_cons_succ]
            refine K.takeL 1 (v := ?_) rfl (by kernel_rfl) (by kernel_rfl) (by kernel_rfl) (fun _ _ _ h => h) (Or.inl ⟨rfl, ?_⟩) (by assumption) ?_
            rotate_left
            · intro w hSw; (try dsimp only at hSw); first | (go_simp; done) | (go_simp; with_reducible rfl)
            simp only [Act.put, List.setIfInBounds_toArray, List.set_cons_zero, List.set_cons_succ]
            refine K.takeL 2 (v := ?_) rfl (by kernel_rfl) (by kernel_rfl) (by kernel_rfl) (fun _ _ _ h => h) (Or.inl ⟨rfl, ?_⟩) (by assumption) ?_
            rotate_left
            · intro w hSw; (try dsimp only at hSw); first | (go_simp; done) | (go_simp; with_reducible rfl)
            simp only [Act.put, List.setIfInBounds_toArray, List.set_cons_zero, List.set_cons_succ]
            refine K.takeL 3 (v := ?_) rfl (by kernel_rfl) (by kernel_rfl) (by kernel_rfl) (fun _ _ _ h => h) (Or.inl ⟨rfl, ?_⟩) (by assumption) ?_
            rotate_left
            · intro w hSw; (try dsimp only at hSw); first | (go_simp; done) | (go_simp; with_reducible rfl)
            simp only [Act.put, List.setIfInBounds_toArray, List.set_cons_zero, List.set_cons_succ]
            refine K.consL 4 rfl (by kernel_rfl) (fun KK hK => ?_)
            go_simp
            refine (Cur.pick _ lo g _ 2 F0.out.cur (by omega)).mono ?_
            rintro e v4 ⟨p, rfl, ⟨p0, p1⟩, q4⟩
            go_wp2_with fail
            have F4 := Lib.hid (F0.out.went q4)
            clear q4
            have hw8 : IntKind.i64.wrap (8 + p) = 8 + p := IntWalk.i64_in _ (by omega)
            refine hK.out _ _ F4.out.box.c3.2.2.1 (fun hHeld => ?_)
            clear hK KK
            try simp only [Act.put, List.setIfInBounds_toArray, List.set_cons_zero, List.set_cons_succ]
            refine K.takeL 5 (v := ?_) rfl (by kernel_rfl) (by kernel_rfl) (by kernel_rfl) (fun _ _ _ h => h) (Or.inl ⟨rfl, ?_⟩) (by assumption) ?_
            rotate_left
            · intro w hSw; (try dsimp only at hSw); first | (go_simp; done) | (go_simp; with_reducible rfl)
            simp only [Act.put, List.setIfInBounds_toArray, List.set_cons_zero, List.set_cons_succ]
            refine K.takeL 6 (v := ?_) rfl (by kernel_rfl) (by kernel_rfl) (by kernel_rfl) (fun _ _ _ h => h) (Or.inl ⟨rfl, ?_⟩) (by assumption) ?_
            rotate_left
            · intro w hSw; (try dsimp only at hSw); first | (go_simp; done) | (go_simp; with_reducible rfl)
            simp only [Act.put, List.setIfInBounds_toArray, List.set_cons_zero, List.set_cons_succ]
            refine wpAnyH_done (by kernel_rfl) ?_ _
            have hmw := lenAt_own G.out.box.c3.2.2.1
            clear G
            by_cases hlt : (rods.length : Int) < 8 + p
            · have hj : rods.length + 1 ≤ maxLen := by simp only [maxLen]; omega
              have hlo4 : w.heap.size + 1 ≤ v4.heap.size := by have := F4.out.blt; have := F4.out.hb; omega
              obtain ⟨d0, d1, d2, d3, d4, d5, d6⟩ := F4.out.box.c3
              go_wp2_with (at_builtin; go_must (refine K.append1 rfl (.tmp 72) (.tmp 74) _ rfl (w.heap.size + 1) _ i0 _ 2 16 Try.underlying28 hi0 hz0 hz1 hz2 rfl (by omega) A rods.length c _ rfl F4.out.row #[.int .i64 1, .int .i64 4] rfl (by simp [Value.oneCell']) (by simp [go_sem]) hj (by omega) hlo4 ?_; intro g5 c5 w5 hrow5 hb5 hlo5 hat5 hg5; have own5 := (F4.out.grown hg5).1; obtain ⟨b0, b1, b2, b3, b4, b5, b6⟩ := own5.c3))
              have F5 := Lib.hid (F4.out.push (x := 1) (y := 4) hrow5 hg5 (fun q hq => by have hq := Option.some.inj hq; subst hq; exact hat5))
              have hmw5 := lenAt_own F5.out.box.c3.2.2.1
              try dsimp only at F5 hmw5
              clear b0 b1 b2 b3 b4 b5 b6 d0 d1 d2 d3 d4 d5 d6 own5 hrow5 hb5 hlo5 hat5 hg5 F0 F4
              go_roundw
              case rel => exact ⟨_, c5, rods ++ [(1, 4)], by rw [List.length_append]; simp, by rw [List.length_append]; simp; omega, Lib.hid (F5.out.more (by rw [List.length_append]; simp; omega))⟩
              case measure => rw [hmw, hmw5]; first | omega | (simp only [List.length_append, List.length_singleton]; omega)
            · skip
              go_wp2_with fail
              go_meet
              exact ⟨_, _, _, by show rods.length ≤ 9; omega, F4.out.more (by omega)⟩
        have t3 : (z == 3) = false := by rw [beq_eq_false_iff_ne]; omega
        clear z0 z1
        go_wp2_with fail
        go_meet
        exact ⟨_, _, _, by show rods.length ≤ 9; omega, G.out.more (by omega)⟩
      obtain ⟨A2, c2, ⟨u2, l2, rods2⟩, hl2, G0⟩ := hcut
      rename World => wq
      have G6 := Lib.hid G0
      clear G0 G
      dsimp only at hl2
      obtain ⟨b0, b1, b2, _, _, _, _⟩ := G6.out.box.c3
      obtain ⟨r0, r1, r2, f0, f1, f2, rg⟩ := G6.out.res.c3
      have hfin := Lib.hid (G6.out.fin (B0 := B) (n := 100) (by omega) (.int .i64 (u2)) (.int .i64 (l2)) (.slice A2 (rods2.length) c2))
      go_wp2_with fail
      exact bodyPost_ret (v := .agg #[.int .i64 (u2), .int .i64 (l2), .slice A2 rods2.length c2]) (by simp [results, Try.results83, go_sem, *]) rfl ⟨A2, c2, ⟨u2, l2, rods2⟩, rfl, by show rods2.length ≤ 9; omega, hfin.out.1, hfin.out.2.1, hfin.out.2.2⟩
end Go.Proofs.Ythlkdaogmcjlbaa.MoveD
