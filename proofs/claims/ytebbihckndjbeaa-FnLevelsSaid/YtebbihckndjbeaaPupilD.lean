/-
  Walks: the draws of pupils: whatever the code, they return some pupils.
-/
import Derived.Test.YtebbihckndjbeaaCur
import Derived.Test.YtebbihckndjbeaaSliceInt
import Derived.Test.YtebbihckndjbeaaPupilH
import Derived.Test.YtebbihckndjbeaaPupilW
import Derived.Test.YtebbihckndjbeaaKit5
import Derived.Test.YtebbihckndjbeaaKit3
import Derived.Deep.DeepCutAuto
set_option linter.unusedVariables false
namespace Go.Proofs.Ytebbihckndjbeaa.PupilD
open Go.RowKit
theorem grow_low {w a b : World} {row : Option Nat} {lo : Nat} (h : w.grownBy a row) (hb : Below lo a b) (hlo : w.heap.size ≤ lo) : w.grownBy b row :=
  ⟨hb.os.trans h.os, hb.tape.trans h.tape, hb.output.trans h.output, Nat.le_trans h.size hb.size, fun i hi hne => (hb.block i (by omega)).trans (h.block i hi hne)⟩
theorem own5 {w : World} {g : Nat} {a b c d f : Value} (h : K.Own w g [a, b, c, d, f]) : w.cell? ⟨g, 0, none⟩ = some a ∧ w.cell? ⟨g, 1, none⟩ = some b ∧ w.cell? ⟨g, 2, none⟩ = some c ∧ w.cell? ⟨g, 3, none⟩ = some d ∧ w.cell? ⟨g, 4, none⟩ = some f ∧ w.frozen? ⟨g, 0, none⟩ = false ∧ w.frozen? ⟨g, 1, none⟩ = false ∧ w.frozen? ⟨g, 2, none⟩ = false ∧ w.frozen? ⟨g, 3, none⟩ = false ∧ w.frozen? ⟨g, 4, none⟩ = false ∧ g < w.heap.size :=
  ⟨h.1.2 0 _ rfl, h.1.2 1 _ rfl, h.1.2 2 _ rfl, h.1.2 3 _ rfl, h.1.2 4 _ rfl, h.2 0 (by simp), h.2 1 (by simp), h.2 2 (by simp), h.2 3 (by simp), h.2 4 (by simp), h.1.1⟩
/-- a cursor, and what has turned since w: nothing old but the cursor. -/
structure Cg (w wr : World) (lo g Bq : Nat) : Prop where
  cur : K.Cur wr lo g Bq
  gro : w.grownBy wr (some g)
  glt : g < w.heap.size
section
variable {w wr w2 : World} {lo g Bq : Nat}
theorem Cg.start (h : K.Cur w lo g Bq) : Cg w w lo g Bq := ⟨h, World.grownBy.refl _ _, h.lt.2⟩
theorem Cg.alloc (F : Cg w wr lo g Bq) (o : Obj) : Cg w (wr.alloc o) lo g Bq := ⟨F.cur.alloc o, K.grown_trans F.gro (K.grown_below ((Below.refl _ _).alloc (Nat.le_refl _) _) _), F.glt⟩
theorem Cg.went {n : Nat} (F : Cg w wr lo g Bq) (h : K.Went wr lo g Bq n w2) : Cg w w2 lo g (Bq + n) := ⟨h.1, K.grown_trans F.gro h.2, F.glt⟩
theorem Cg.set (F : Cg w wr lo g Bq) {p : Addr} (hp : w.heap.size ≤ p.block) (u : Value) : Cg w (wr.setCell p u) lo g Bq :=
  ⟨F.cur.kept (K.setCell_grown wr p u) (fun q hq => by injection hq with hq; have := F.cur.lt; have := F.glt; omega) (fun e => by injection e with e; have := F.glt; omega), grow_low F.gro (lo := w.heap.size) ((Below.refl _ _).setCell hp u) (Nat.le_refl _), F.glt⟩
theorem Cg.fin {B n : Nat} (F : Cg w wr lo g Bq) (h : Bq ≤ B + n) : K.Went w lo g B n wr := ⟨F.cur.mono h, F.gro⟩
theorem Cg.grown (F : Cg w wr lo g Bq) {q : Nat} (hg : wr.grownBy w2 (some q)) (hq : w.heap.size ≤ q) : Cg w w2 lo g Bq :=
  ⟨F.cur.kept hg (fun k hk => by injection hk with hk; have := F.cur.lt; have := F.glt; omega) (fun e => by injection e with e; have := F.glt; omega), ⟨hg.os.trans F.gro.os, hg.tape.trans F.gro.tape, hg.output.trans F.gro.output, Nat.le_trans F.gro.size hg.size, fun i hi hne => (hg.block i (Nat.lt_of_lt_of_le hi F.gro.size) (fun e => by injection e with e; omega)).trans (F.gro.block i hi hne)⟩, F.glt⟩
theorem Cg.grownN (F : Cg w wr lo g Bq) {A : Option Addr} (hg : wr.grownBy w2 (K.blk A)) (hq : ∀ q, K.blk A = some q → w.heap.size ≤ q) : Cg w w2 lo g Bq := by
  cases h : K.blk A with
  | some q => rw [h] at hg; exact F.grown hg (hq q h)
  | none =>
    rw [h] at hg
    exact ⟨F.cur.kept hg (fun q hq => by cases hq) (fun e => by cases e), ⟨hg.os.trans F.gro.os, hg.tape.trans F.gro.tape, hg.output.trans F.gro.output, Nat.le_trans F.gro.size hg.size, fun i hi hne => (hg.block i (Nat.lt_of_lt_of_le hi F.gro.size) (fun e => by cases e)).trans (F.gro.block i hi hne)⟩, F.glt⟩
end
def li_born : List Int := [1900, 2010, 2012, 2100]
def li_cls : List Int := [0, 0, 1, 1, 2, 9]
def li_lev : List Int := [0, 1, 3, 4, 4, 7, 10]
def li_x0 : List Int := [0, 999, 1000]
def li_x2 : List Int := [1899, 2101]
def li_x3 : List Int := [-1, 10]
def li_x4 : List Int := [-1, 11]
def li_nm : List ByteArray := [⟨#[97, 107, 105]⟩, ⟨#[98, 101, 110]⟩, ⟨#[99, 104, 101, 110]⟩, ⟨#[97, 107, 105]⟩, ⟨#[100, 111, 114, 97]⟩]
def li_nm2 : List ByteArray := [⟨#[]⟩, ⟨#[65]⟩, ⟨#[97, 98, 99, 100, 101, 102, 103, 104, 105, 106, 107]⟩]
theorem nm_size : ∀ x ∈ li_nm, x.size ≤ 20 := by decide
theorem nm2_size : ∀ x ∈ li_nm2, x.size ≤ 20 := by decide
set_option maxHeartbeats 2000000 in
theorem pupil1 (w : World) (lo g B : Nat) (id : Int) (h : K.Cur w lo g B) (hB : B ≤ 1000000) :
    Calls Try.prog 77 #[.pointer (some ⟨g, 0, none⟩), .int .i64 id] w fun e w' => ∃ p : M.Pupil, e = .returned (.agg #[.int .i64 p.id, .string p.name, .int .i64 p.born, .int .i64 p.cls, .int .i64 p.level]) ∧ p.name.size ≤ 20 ∧ K.Went w lo g B 12 w' := by
  have C := Lib.hid ((Cg.start h).alloc (.cells #[.int .i64 0, .string ByteArray.empty, .int .i64 0, .int .i64 0, .int .i64 0] 26))
  have RS := Lib.hid (K.Own.new w #[.int .i64 0, .string ByteArray.empty, .int .i64 0, .int .i64 0, .int .i64 0] 26)
  have hg := h.lt.2
  clear h
  go_enter Try.func77, Try.ntmps77
  have C := Lib.hid (C.out.alloc (.cells #[.string ⟨#[97, 107, 105]⟩, .string ⟨#[98, 101, 110]⟩, .string ⟨#[99, 104, 101, 110]⟩, .string ⟨#[97, 107, 105]⟩, .string ⟨#[100, 111, 114, 97]⟩] 9))
  have RS := Lib.hid (RS.out.alloc (.cells #[.string ⟨#[97, 107, 105]⟩, .string ⟨#[98, 101, 110]⟩, .string ⟨#[99, 104, 101, 110]⟩, .string ⟨#[97, 107, 105]⟩, .string ⟨#[100, 111, 114, 97]⟩] 9))
  have RL := Lib.hid (K.Rd.new (w.alloc (.cells #[.int .i64 0, .string ByteArray.empty, .int .i64 0, .int .i64 0, .int .i64 0] 26)) #[.string ⟨#[97, 107, 105]⟩, .string ⟨#[98, 101, 110]⟩, .string ⟨#[99, 104, 101, 110]⟩, .string ⟨#[97, 107, 105]⟩, .string ⟨#[100, 111, 114, 97]⟩] 9 5 1 rfl)
  rw [World.size_alloc] at RL
  go_wp2_with fail
  refine (Cur.of _ lo g _ (some ⟨w.heap.size + 1, 0, none⟩) 5 li_nm C.out.cur (by omega) (by decide) RL.out (fun e => by simp [K.blk] at e; omega)).mono ?_
  rintro e w1 ⟨x1, rfl, hx1, q1⟩
  have C := Lib.hid (C.out.went q1)
  have RS := Lib.hid (RS.out.kept q1.2 (fun e => by injection e with e; omega))
  have hz1 : w.heap.size + 1 ≤ w1.heap.size := by have := RS.out.1.1; have := C.out.gro.size; have := RS.out.1.1; omega
  have C := Lib.hid (C.out.alloc (.cells #[.int .i64 (1900), .int .i64 (2010), .int .i64 (2012), .int .i64 (2100)] 3))
  have RS := Lib.hid (RS.out.alloc (.cells #[.int .i64 (1900), .int .i64 (2010), .int .i64 (2012), .int .i64 (2100)] 3))
  have RL := Lib.hid (K.Rd.new w1 #[.int .i64 (1900), .int .i64 (2010), .int .i64 (2012), .int .i64 (2100)] 3 4 1 rfl)
  go_wp2_with fail
  refine (Cur.among _ lo g _ (some ⟨w1.heap.size, 0, none⟩) 4 li_born C.out.cur (by omega) (by decide) RL.out (fun e => by simp [K.blk] at e; omega)).mono ?_
  rintro e w2 ⟨x2, rfl, hx2, q2⟩
  have C := Lib.hid (C.out.went q2)
  have RS := Lib.hid (RS.out.kept q2.2 (fun e => by injection e with e; omega))
  have hz2 : w.heap.size + 1 ≤ w2.heap.size := by have := RS.out.1.1; have := C.out.gro.size; have := RS.out.1.1; omega
  have C := Lib.hid (C.out.alloc (.cells #[.int .i64 (0), .int .i64 (0), .int .i64 (1), .int .i64 (1), .int .i64 (2), .int .i64 (9)] 3))
  have RS := Lib.hid (RS.out.alloc (.cells #[.int .i64 (0), .int .i64 (0), .int .i64 (1), .int .i64 (1), .int .i64 (2), .int .i64 (9)] 3))
  have RL := Lib.hid (K.Rd.new w2 #[.int .i64 (0), .int .i64 (0), .int .i64 (1), .int .i64 (1), .int .i64 (2), .int .i64 (9)] 3 6 1 rfl)
  go_wp2_with fail
  refine (Cur.among _ lo g _ (some ⟨w2.heap.size, 0, none⟩) 6 li_cls C.out.cur (by omega) (by decide) RL.out (fun e => by simp [K.blk] at e; omega)).mono ?_
  rintro e w3 ⟨x3, rfl, hx3, q3⟩
  have C := Lib.hid (C.out.went q3)
  have RS := Lib.hid (RS.out.kept q3.2 (fun e => by injection e with e; omega))
  have hz3 : w.heap.size + 1 ≤ w3.heap.size := by have := RS.out.1.1; have := C.out.gro.size; have := RS.out.1.1; omega
  have C := Lib.hid (C.out.alloc (.cells #[.int .i64 (0), .int .i64 (1), .int .i64 (3), .int .i64 (4), .int .i64 (4), .int .i64 (7), .int .i64 (10)] 3))
  have RS := Lib.hid (RS.out.alloc (.cells #[.int .i64 (0), .int .i64 (1), .int .i64 (3), .int .i64 (4), .int .i64 (4), .int .i64 (7), .int .i64 (10)] 3))
  have RL := Lib.hid (K.Rd.new w3 #[.int .i64 (0), .int .i64 (1), .int .i64 (3), .int .i64 (4), .int .i64 (4), .int .i64 (7), .int .i64 (10)] 3 7 1 rfl)
  go_wp2_with fail
  refine (Cur.among _ lo g _ (some ⟨w3.heap.size, 0, none⟩) 7 li_lev C.out.cur (by omega) (by decide) RL.out (fun e => by simp [K.blk] at e; omega)).mono ?_
  rintro e w4 ⟨x4, rfl, hx4, q4⟩
  have C := Lib.hid (C.out.went q4)
  have RS := Lib.hid (RS.out.kept q4.2 (fun e => by injection e with e; omega))
  have hz4 : w.heap.size + 1 ≤ w4.heap.size := by have := RS.out.1.1; have := C.out.gro.size; have := RS.out.1.1; omega
  have C := Lib.hid (C.out.alloc (.cells #[.int .i64 id, .string x1, .int .i64 x2, .int .i64 x3, .int .i64 x4] 26))
  have RS := Lib.hid (RS.out.alloc (.cells #[.int .i64 id, .string x1, .int .i64 x2, .int .i64 x3, .int .i64 x4] 26))
  have BX := Lib.hid (K.Own.new w4 #[.int .i64 id, .string x1, .int .i64 x2, .int .i64 x3, .int .i64 x4] 26)
  have hx9 := nm_size x1 hx1
  go_wp2_with fail
  refine (Cur.pick _ lo g _ 80 C.out.cur (by omega)).mono ?_
  rintro e w5 ⟨y, rfl, _, q5⟩
  have C := Lib.hid (C.out.went q5)
  have RS := Lib.hid (RS.out.kept q5.2 (fun e => by injection e with e; omega))
  have BX := Lib.hid (BX.out.kept q5.2 (fun e => by injection e with e; omega))
  have hb5 := BX.out.1.1
  by_cases y0c : y = 0
  · skip
    have t0 : (y == 0) = true := by rw [beq_iff_eq]; omega
    have C := Lib.hid (C.out.alloc (.cells #[.int .i64 (0), .int .i64 (999), .int .i64 (1000)] 3))
    have RS := Lib.hid (RS.out.alloc (.cells #[.int .i64 (0), .int .i64 (999), .int .i64 (1000)] 3))
    have BX := Lib.hid (BX.out.alloc (.cells #[.int .i64 (0), .int .i64 (999), .int .i64 (1000)] 3))
    have RL := Lib.hid (K.Rd.new w5 #[.int .i64 (0), .int .i64 (999), .int .i64 (1000)] 3 3 1 rfl)
    go_wp2_with fail
    refine (Cur.among _ lo g _ (some ⟨w5.heap.size, 0, none⟩) 3 li_x0 C.out.cur (by omega) (by decide) RL.out (fun e => by simp [K.blk] at e; omega)).mono ?_
    rintro e w6 ⟨z, rfl, hz, q6⟩
    have C := Lib.hid (C.out.went q6)
    have RS := Lib.hid (RS.out.kept q6.2 (fun e => by injection e with e; omega))
    have BX := Lib.hid (BX.out.kept q6.2 (fun e => by injection e with e; omega))
    obtain ⟨b0, b1, b2, b3, b4, g0, g1, g2, g3, g4, bg⟩ := own5 BX.out
    go_upto_region 13 with fail
    have BX := Lib.hid (BX.out.set_ 0 (by simp) (.int .i64 z))
    have RS := Lib.hid (RS.out.setOther (p := ⟨w4.heap.size, 0, none⟩) (by simp only; omega) (.int .i64 z))
    have C := Lib.hid (C.out.set (p := ⟨w4.heap.size, 0, none⟩) (by simp only; omega) (.int .i64 z))
    obtain ⟨V, hV⟩ : ∃ X, X = w6.setCell ⟨w4.heap.size, 0, none⟩ (.int .i64 z) := ⟨_, rfl⟩
    rw [← hV] at BX RS C
    try rw [← hV]
    clear hV b0 b1 b2 b3 b4 g0 g1 g2 g3 g4 bg
    obtain ⟨b0, b1, b2, b3, b4, _, _, _, _, _, bg⟩ := own5 BX.out
    obtain ⟨r0, r1, r2, r3, r4, f0, f1, f2, f3, f4, rg⟩ := own5 RS.out
    have HW := Lib.hid ((((((C.out.set (p := ⟨w.heap.size, 0, none⟩) (Nat.le_refl _) (.int .i64 (z))).set (p := ⟨w.heap.size, 1, none⟩) (Nat.le_refl _) (.string x1)).set (p := ⟨w.heap.size, 2, none⟩) (Nat.le_refl _) (.int .i64 (x2))).set (p := ⟨w.heap.size, 3, none⟩) (Nat.le_refl _) (.int .i64 (x3))).set (p := ⟨w.heap.size, 4, none⟩) (Nat.le_refl _) (.int .i64 (x4))).fin (B := B) (n := 12) (by omega))
    clear C
    go_wp2_with fail
    exact bodyPost_ret (v := .agg #[.int .i64 (z), .string x1, .int .i64 (x2), .int .i64 (x3), .int .i64 (x4)]) (by simp [results, Try.results77, go_sem, *]) rfl ⟨⟨z, x1, x2, x3, x4⟩, rfl, hx9, HW.out⟩
  by_cases y1c : y = 1
  · skip
    have t0 : (y == 0) = false := by rw [beq_eq_false_iff_ne]; omega
    have t1 : (y == 1) = true := by rw [beq_iff_eq]; omega
    have C := Lib.hid (C.out.alloc (.cells #[.string ⟨#[]⟩, .string ⟨#[65]⟩, .string ⟨#[97, 98, 99, 100, 101, 102, 103, 104, 105, 106, 107]⟩] 9))
    have RS := Lib.hid (RS.out.alloc (.cells #[.string ⟨#[]⟩, .string ⟨#[65]⟩, .string ⟨#[97, 98, 99, 100, 101, 102, 103, 104, 105, 106, 107]⟩] 9))
    have BX := Lib.hid (BX.out.alloc (.cells #[.string ⟨#[]⟩, .string ⟨#[65]⟩, .string ⟨#[97, 98, 99, 100, 101, 102, 103, 104, 105, 106, 107]⟩] 9))
    have RL := Lib.hid (K.Rd.new w5 #[.string ⟨#[]⟩, .string ⟨#[65]⟩, .string ⟨#[97, 98, 99, 100, 101, 102, 103, 104, 105, 106, 107]⟩] 9 3 1 rfl)
    go_wp2_with fail
    refine (Cur.of _ lo g _ (some ⟨w5.heap.size, 0, none⟩) 3 li_nm2 C.out.cur (by omega) (by decide) RL.out (fun e => by simp [K.blk] at e; omega)).mono ?_
    rintro e w6 ⟨z, rfl, hz, q6⟩
    have C := Lib.hid (C.out.went q6)
    have RS := Lib.hid (RS.out.kept q6.2 (fun e => by injection e with e; omega))
    have BX := Lib.hid (BX.out.kept q6.2 (fun e => by injection e with e; omega))
    obtain ⟨b0, b1, b2, b3, b4, g0, g1, g2, g3, g4, bg⟩ := own5 BX.out
    go_upto_region 13 with fail
    have BX := Lib.hid (BX.out.set_ 1 (by simp) (.string z))
    have RS := Lib.hid (RS.out.setOther (p := ⟨w4.heap.size, 1, none⟩) (by simp only; omega) (.string z))
    have C := Lib.hid (C.out.set (p := ⟨w4.heap.size, 1, none⟩) (by simp only; omega) (.string z))
    obtain ⟨V, hV⟩ : ∃ X, X = w6.setCell ⟨w4.heap.size, 1, none⟩ (.string z) := ⟨_, rfl⟩
    rw [← hV] at BX RS C
    try rw [← hV]
    clear hV b0 b1 b2 b3 b4 g0 g1 g2 g3 g4 bg
    obtain ⟨b0, b1, b2, b3, b4, _, _, _, _, _, bg⟩ := own5 BX.out
    obtain ⟨r0, r1, r2, r3, r4, f0, f1, f2, f3, f4, rg⟩ := own5 RS.out
    have HW := Lib.hid ((((((C.out.set (p := ⟨w.heap.size, 0, none⟩) (Nat.le_refl _) (.int .i64 (id))).set (p := ⟨w.heap.size, 1, none⟩) (Nat.le_refl _) (.string z)).set (p := ⟨w.heap.size, 2, none⟩) (Nat.le_refl _) (.int .i64 (x2))).set (p := ⟨w.heap.size, 3, none⟩) (Nat.le_refl _) (.int .i64 (x3))).set (p := ⟨w.heap.size, 4, none⟩) (Nat.le_refl _) (.int .i64 (x4))).fin (B := B) (n := 12) (by omega))
    clear C
    go_wp2_with fail
    exact bodyPost_ret (v := .agg #[.int .i64 (id), .string z, .int .i64 (x2), .int .i64 (x3), .int .i64 (x4)]) (by simp [results, Try.results77, go_sem, *]) rfl ⟨⟨id, z, x2, x3, x4⟩, rfl, nm2_size z hz, HW.out⟩
  by_cases y2c : y = 2
  · skip
    have t0 : (y == 0) = false := by rw [beq_eq_false_iff_ne]; omega
    have t1 : (y == 1) = false := by rw [beq_eq_false_iff_ne]; omega
    have t2 : (y == 2) = true := by rw [beq_iff_eq]; omega
    have C := Lib.hid (C.out.alloc (.cells #[.int .i64 (1899), .int .i64 (2101)] 3))
    have RS := Lib.hid (RS.out.alloc (.cells #[.int .i64 (1899), .int .i64 (2101)] 3))
    have BX := Lib.hid (BX.out.alloc (.cells #[.int .i64 (1899), .int .i64 (2101)] 3))
    have RL := Lib.hid (K.Rd.new w5 #[.int .i64 (1899), .int .i64 (2101)] 3 2 1 rfl)
    go_wp2_with fail
    refine (Cur.among _ lo g _ (some ⟨w5.heap.size, 0, none⟩) 2 li_x2 C.out.cur (by omega) (by decide) RL.out (fun e => by simp [K.blk] at e; omega)).mono ?_
    rintro e w6 ⟨z, rfl, hz, q6⟩
    have C := Lib.hid (C.out.went q6)
    have RS := Lib.hid (RS.out.kept q6.2 (fun e => by injection e with e; omega))
    have BX := Lib.hid (BX.out.kept q6.2 (fun e => by injection e with e; omega))
    obtain ⟨b0, b1, b2, b3, b4, g0, g1, g2, g3, g4, bg⟩ := own5 BX.out
    go_upto_region 13 with fail
    have BX := Lib.hid (BX.out.set_ 2 (by simp) (.int .i64 z))
    have RS := Lib.hid (RS.out.setOther (p := ⟨w4.heap.size, 2, none⟩) (by simp only; omega) (.int .i64 z))
    have C := Lib.hid (C.out.set (p := ⟨w4.heap.size, 2, none⟩) (by simp only; omega) (.int .i64 z))
    obtain ⟨V, hV⟩ : ∃ X, X = w6.setCell ⟨w4.heap.size, 2, none⟩ (.int .i64 z) := ⟨_, rfl⟩
    rw [← hV] at BX RS C
    try rw [← hV]
    clear hV b0 b1 b2 b3 b4 g0 g1 g2 g3 g4 bg
    obtain ⟨b0, b1, b2, b3, b4, _, _, _, _, _, bg⟩ := own5 BX.out
    obtain ⟨r0, r1, r2, r3, r4, f0, f1, f2, f3, f4, rg⟩ := own5 RS.out
    have HW := Lib.hid ((((((C.out.set (p := ⟨w.heap.size, 0, none⟩) (Nat.le_refl _) (.int .i64 (id))).set (p := ⟨w.heap.size, 1, none⟩) (Nat.le_refl _) (.string x1)).set (p := ⟨w.heap.size, 2, none⟩) (Nat.le_refl _) (.int .i64 (z))).set (p := ⟨w.heap.size, 3, none⟩) (Nat.le_refl _) (.int .i64 (x3))).set (p := ⟨w.heap.size, 4, none⟩) (Nat.le_refl _) (.int .i64 (x4))).fin (B := B) (n := 12) (by omega))
    clear C
    go_wp2_with fail
    exact bodyPost_ret (v := .agg #[.int .i64 (id), .string x1, .int .i64 (z), .int .i64 (x3), .int .i64 (x4)]) (by simp [results, Try.results77, go_sem, *]) rfl ⟨⟨id, x1, z, x3, x4⟩, rfl, hx9, HW.out⟩
  by_cases y3c : y = 3
  · skip
    have t0 : (y == 0) = false := by rw [beq_eq_false_iff_ne]; omega
    have t1 : (y == 1) = false := by rw [beq_eq_false_iff_ne]; omega
    have t2 : (y == 2) = false := by rw [beq_eq_false_iff_ne]; omega
    have t3 : (y == 3) = true := by rw [beq_iff_eq]; omega
    have C := Lib.hid (C.out.alloc (.cells #[.int .i64 (-1), .int .i64 (10)] 3))
    have RS := Lib.hid (RS.out.alloc (.cells #[.int .i64 (-1), .int .i64 (10)] 3))
    have BX := Lib.hid (BX.out.alloc (.cells #[.int .i64 (-1), .int .i64 (10)] 3))
    have RL := Lib.hid (K.Rd.new w5 #[.int .i64 (-1), .int .i64 (10)] 3 2 1 rfl)
    go_wp2_with fail
    refine (Cur.among _ lo g _ (some ⟨w5.heap.size, 0, none⟩) 2 li_x3 C.out.cur (by omega) (by decide) RL.out (fun e => by simp [K.blk] at e; omega)).mono ?_
    rintro e w6 ⟨z, rfl, hz, q6⟩
    have C := Lib.hid (C.out.went q6)
    have RS := Lib.hid (RS.out.kept q6.2 (fun e => by injection e with e; omega))
    have BX := Lib.hid (BX.out.kept q6.2 (fun e => by injection e with e; omega))
    obtain ⟨b0, b1, b2, b3, b4, g0, g1, g2, g3, g4, bg⟩ := own5 BX.out
    go_upto_region 13 with fail
    have BX := Lib.hid (BX.out.set_ 3 (by simp) (.int .i64 z))
    have RS := Lib.hid (RS.out.setOther (p := ⟨w4.heap.size, 3, none⟩) (by simp only; omega) (.int .i64 z))
    have C := Lib.hid (C.out.set (p := ⟨w4.heap.size, 3, none⟩) (by simp only; omega) (.int .i64 z))
    obtain ⟨V, hV⟩ : ∃ X, X = w6.setCell ⟨w4.heap.size, 3, none⟩ (.int .i64 z) := ⟨_, rfl⟩
    rw [← hV] at BX RS C
    try rw [← hV]
    clear hV b0 b1 b2 b3 b4 g0 g1 g2 g3 g4 bg
    obtain ⟨b0, b1, b2, b3, b4, _, _, _, _, _, bg⟩ := own5 BX.out
    obtain ⟨r0, r1, r2, r3, r4, f0, f1, f2, f3, f4, rg⟩ := own5 RS.out
    have HW := Lib.hid ((((((C.out.set (p := ⟨w.heap.size, 0, none⟩) (Nat.le_refl _) (.int .i64 (id))).set (p := ⟨w.heap.size, 1, none⟩) (Nat.le_refl _) (.string x1)).set (p := ⟨w.heap.size, 2, none⟩) (Nat.le_refl _) (.int .i64 (x2))).set (p := ⟨w.heap.size, 3, none⟩) (Nat.le_refl _) (.int .i64 (z))).set (p := ⟨w.heap.size, 4, none⟩) (Nat.le_refl _) (.int .i64 (x4))).fin (B := B) (n := 12) (by omega))
    clear C
    go_wp2_with fail
    exact bodyPost_ret (v := .agg #[.int .i64 (id), .string x1, .int .i64 (x2), .int .i64 (z), .int .i64 (x4)]) (by simp [results, Try.results77, go_sem, *]) rfl ⟨⟨id, x1, x2, z, x4⟩, rfl, hx9, HW.out⟩
  by_cases y4c : y = 4
  · skip
    have t0 : (y == 0) = false := by rw [beq_eq_false_iff_ne]; omega
    have t1 : (y == 1) = false := by rw [beq_eq_false_iff_ne]; omega
    have t2 : (y == 2) = false := by rw [beq_eq_false_iff_ne]; omega
    have t3 : (y == 3) = false := by rw [beq_eq_false_iff_ne]; omega
    have t4 : (y == 4) = true := by rw [beq_iff_eq]; omega
    have C := Lib.hid (C.out.alloc (.cells #[.int .i64 (-1), .int .i64 (11)] 3))
    have RS := Lib.hid (RS.out.alloc (.cells #[.int .i64 (-1), .int .i64 (11)] 3))
    have BX := Lib.hid (BX.out.alloc (.cells #[.int .i64 (-1), .int .i64 (11)] 3))
    have RL := Lib.hid (K.Rd.new w5 #[.int .i64 (-1), .int .i64 (11)] 3 2 1 rfl)
    go_wp2_with fail
    refine (Cur.among _ lo g _ (some ⟨w5.heap.size, 0, none⟩) 2 li_x4 C.out.cur (by omega) (by decide) RL.out (fun e => by simp [K.blk] at e; omega)).mono ?_
    rintro e w6 ⟨z, rfl, hz, q6⟩
    have C := Lib.hid (C.out.went q6)
    have RS := Lib.hid (RS.out.kept q6.2 (fun e => by injection e with e; omega))
    have BX := Lib.hid (BX.out.kept q6.2 (fun e => by injection e with e; omega))
    obtain ⟨b0, b1, b2, b3, b4, g0, g1, g2, g3, g4, bg⟩ := own5 BX.out
    go_upto_region 13 with fail
    have BX := Lib.hid (BX.out.set_ 4 (by simp) (.int .i64 z))
    have RS := Lib.hid (RS.out.setOther (p := ⟨w4.heap.size, 4, none⟩) (by simp only; omega) (.int .i64 z))
    have C := Lib.hid (C.out.set (p := ⟨w4.heap.size, 4, none⟩) (by simp only; omega) (.int .i64 z))
    obtain ⟨V, hV⟩ : ∃ X, X = w6.setCell ⟨w4.heap.size, 4, none⟩ (.int .i64 z) := ⟨_, rfl⟩
    rw [← hV] at BX RS C
    try rw [← hV]
    clear hV b0 b1 b2 b3 b4 g0 g1 g2 g3 g4 bg
    obtain ⟨b0, b1, b2, b3, b4, _, _, _, _, _, bg⟩ := own5 BX.out
    obtain ⟨r0, r1, r2, r3, r4, f0, f1, f2, f3, f4, rg⟩ := own5 RS.out
    have HW := Lib.hid ((((((C.out.set (p := ⟨w.heap.size, 0, none⟩) (Nat.le_refl _) (.int .i64 (id))).set (p := ⟨w.heap.size, 1, none⟩) (Nat.le_refl _) (.string x1)).set (p := ⟨w.heap.size, 2, none⟩) (Nat.le_refl _) (.int .i64 (x2))).set (p := ⟨w.heap.size, 3, none⟩) (Nat.le_refl _) (.int .i64 (x3))).set (p := ⟨w.heap.size, 4, none⟩) (Nat.le_refl _) (.int .i64 (z))).fin (B := B) (n := 12) (by omega))
    clear C
    go_wp2_with fail
    exact bodyPost_ret (v := .agg #[.int .i64 (id), .string x1, .int .i64 (x2), .int .i64 (x3), .int .i64 (z)]) (by simp [results, Try.results77, go_sem, *]) rfl ⟨⟨id, x1, x2, x3, z⟩, rfl, hx9, HW.out⟩
  have t0 : (y == 0) = false := by rw [beq_eq_false_iff_ne]; omega
  have t1 : (y == 1) = false := by rw [beq_eq_false_iff_ne]; omega
  have t2 : (y == 2) = false := by rw [beq_eq_false_iff_ne]; omega
  have t3 : (y == 3) = false := by rw [beq_eq_false_iff_ne]; omega
  have t4 : (y == 4) = false := by rw [beq_eq_false_iff_ne]; omega
  obtain ⟨b0, b1, b2, b3, b4, _, _, _, _, _, bg⟩ := own5 BX.out
  obtain ⟨r0, r1, r2, r3, r4, f0, f1, f2, f3, f4, rg⟩ := own5 RS.out
  have HW := Lib.hid ((((((C.out.set (p := ⟨w.heap.size, 0, none⟩) (Nat.le_refl _) (.int .i64 (id))).set (p := ⟨w.heap.size, 1, none⟩) (Nat.le_refl _) (.string x1)).set (p := ⟨w.heap.size, 2, none⟩) (Nat.le_refl _) (.int .i64 (x2))).set (p := ⟨w.heap.size, 3, none⟩) (Nat.le_refl _) (.int .i64 (x3))).set (p := ⟨w.heap.size, 4, none⟩) (Nat.le_refl _) (.int .i64 (x4))).fin (B := B) (n := 12) (by omega))
  clear C
  go_wp2_with fail
  exact bodyPost_ret (v := .agg #[.int .i64 (id), .string x1, .int .i64 (x2), .int .i64 (x3), .int .i64 (x4)]) (by simp [results, Try.results77, go_sem, *]) rfl ⟨⟨id, x1, x2, x3, x4⟩, rfl, hx9, HW.out⟩
end Go.Proofs.Ytebbihckndjbeaa.PupilD
