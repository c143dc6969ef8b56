/-
  A cursor that draws: its block, and walks of its methods.
-/
import Derived.Test.YthlkdaogmcjlbaaKit4
import Derived.Test.YthlkdaogmcjlbaaBase
import Derived.BigQuiet
set_option linter.unusedVariables false
namespace Go.Proofs.Ythlkdaogmcjlbaa.K
open Go.RowKit
theorem Own.c3 {w : World} {g : Nat} {a b c : Value} (h : Own w g [a, b, c]) : w.cell? ⟨g, 0, none⟩ = some a ∧ w.cell? ⟨g, 1, none⟩ = some b ∧ w.cell? ⟨g, 2, none⟩ = some c ∧ w.frozen? ⟨g, 0, none⟩ = false ∧ w.frozen? ⟨g, 1, none⟩ = false ∧ w.frozen? ⟨g, 2, none⟩ = false ∧ g < w.heap.size := ⟨h.1.c3.1, h.1.c3.2.1, h.1.c3.2.2, h.2 0 (by simp), h.2 1 (by simp), h.2 2 (by simp), h.1.1⟩
/-- block g, from lo on, holds a cursor: a code that reads as bytes and lies below lo, a place of at most B, a seed. -/
def Cur (w : World) (lo g B : Nat) : Prop :=
  lo ≤ g ∧ ∃ (A : Option Addr) (c : Nat) (l : List UInt8) (a : Nat) (s : Int), Own w g [.slice A l.length c, .int .i64 (a : Int), .int .u64 s] ∧ Rd w 1 A l.length (l.map fun b => Value.int .u8 (b.toNat : Int)) ∧ (0 < l.length → ∀ q, blk A = some q → q < lo) ∧ a ≤ B ∧ l.length ≤ 65536
theorem Cur.mono {w : World} {lo g B B' : Nat} (h : Cur w lo g B) (hB : B ≤ B') : Cur w lo g B' := by
  obtain ⟨hg, A, c, l, a, s, h1, h2, h3, h4, h5⟩ := h
  exact ⟨hg, A, c, l, a, s, h1, h2, h3, by omega, h5⟩
theorem Cur.lt {w : World} {lo g B : Nat} (h : Cur w lo g B) : lo ≤ g ∧ g < w.heap.size := by
  obtain ⟨hg, A, c, l, a, s, h1, _⟩ := h
  exact ⟨hg, h1.1.1⟩
theorem Cur.below {w w' : World} {lo g B : Nat} (h : Cur w lo g B) (hb : Below w.heap.size w w') : Cur w' lo g B := by
  obtain ⟨hg, A, c, l, a, s, h1, h2, h3, h4, h5⟩ := h
  exact ⟨hg, A, c, l, a, s, h1.below hb, h2.below hb, h3, h4, h5⟩
theorem Cur.alloc {w : World} {lo g B : Nat} (h : Cur w lo g B) (o : Obj) : Cur (w.alloc o) lo g B := h.below ((Below.refl _ _).alloc (Nat.le_refl _) o)
theorem Cur.drew {w : World} {lo g B : Nat} (h : Cur w lo g B) : Cur w.drew lo g B := h
theorem Rd.kept0 {w w' : World} {size n : Nat} {A : Option Addr} {xs : List Value} {row : Option Nat} (h : Rd w size A n xs) (hg : w.grownBy w' row) (hne : 0 < n → ∀ g, blk A = some g → row ≠ some g) : Rd w' size A n xs :=
  ⟨h.1, fun hn => by
    obtain ⟨g, off, rfl, hlt, hc⟩ := h.2 hn
    exact ⟨g, off, rfl, Nat.lt_of_lt_of_le hlt hg.size, fun j u hu => hg.cell (hc j u hu) (fun hh => hne hn g rfl hh.symm)⟩⟩
theorem Own.kept {w w' : World} {g : Nat} {vs : List Value} {row : Option Nat} (h : Own w g vs) (hg : w.grownBy w' row) (hne : row ≠ some g) : Own w' g vs := by
  have hb : w'.heap[g]? = w.heap[g]? := hg.block g h.1.1 (fun e => hne e.symm)
  have hc : ∀ p : Addr, p.block = g → w'.cell? p = w.cell? p := fun p hp => by simp only [World.cell?, hp, hb]
  have hf : ∀ p : Addr, p.block = g → w'.frozen? p = w.frozen? p := fun p hp => by simp only [World.frozen?, hp, hb]
  exact ⟨⟨Nat.lt_of_lt_of_le h.1.1 hg.size, fun j u hu => (hc _ rfl).trans (h.1.2 j u hu)⟩, fun j hj => (hf _ rfl).trans (h.2 j hj)⟩
/-- a cursor stays while another block from lo on is written. -/
theorem Cur.kept {w w' : World} {lo g B : Nat} {row : Option Nat} (h : Cur w lo g B) (hg : w.grownBy w' row) (hlo : ∀ q, row = some q → lo ≤ q) (hne : row ≠ some g) : Cur w' lo g B := by
  obtain ⟨hl, A, c, l, a, s, h1, h2, h3, h4, h5⟩ := h
  exact ⟨hl, A, c, l, a, s, h1.kept hg hne, h2.kept0 hg (fun hn q hq hr => by have := h3 hn q hq; have := hlo q hr; omega), h3, h4, h5⟩
theorem Cur.new {w : World} {A : Option Addr} {c : Nat} {l : List UInt8} (hr : Rd w 1 A l.length (l.map fun b => Value.int .u8 (b.toNat : Int))) (h5 : l.length ≤ 65536) (t : TypeId) :
    Cur (w.alloc (.cells #[.slice A l.length c, .int .i64 0, .int .u64 0] t)) w.heap.size w.heap.size 0 :=
  ⟨Nat.le_refl _, A, c, l, 0, 0, Own.new w _ t, hr.below ((Below.refl _ _).alloc (Nat.le_refl _) _), fun hn q hq => by obtain ⟨g, off, e, hg, _⟩ := hr.2 hn; rw [e] at hq; simp [blk] at hq; omega, Nat.le_refl _, h5⟩
/-- what a method of the cursor leaves: the cursor, at most n further; nothing else that was there has turned. -/
def Went (w : World) (lo g B n : Nat) (w' : World) : Prop := Cur w' lo g (B + n) ∧ w.grownBy w' (some g)
theorem Went.trans {a b c : World} {lo g B n m : Nat} (h : Went a lo g B n b) (k : Went b lo g (B + n) m c) : Went a lo g B (n + m) c := ⟨by rw [← Nat.add_assoc]; exact k.1, grown_trans h.2 k.2⟩
theorem went1 {w : World} {lo g B m n a c : Nat} {A : Option Addr} {l : List UInt8} {s s' : Int} (hlo : lo ≤ g) (how : Own w g [.slice A l.length c, .int .i64 (a : Int), .int .u64 s]) (hr : Rd w 1 A l.length (l.map fun b => Value.int .u8 (b.toNat : Int))) (hA : 0 < l.length → ∀ q, blk A = some q → q < lo) (ha : a ≤ B) (hl : l.length ≤ 65536) :
    Went w lo g B 1 ((((w.drewN m).setCell ⟨g, 1, none⟩ (.int .i64 ((a : Int) + 1))).setCell ⟨g, 2, none⟩ (.int .u64 s')).drewN n) := by
  have h1 : Own (w.drewN m) g [.slice A l.length c, .int .i64 (a : Int), .int .u64 s] := how
  have h2 := (h1.set_ 1 (by simp) (.int .i64 ((a : Int) + 1))).set_ 2 (by simp) (.int .u64 s')
  have hg : w.grownBy ((((w.drewN m).setCell ⟨g, 1, none⟩ (.int .i64 ((a : Int) + 1))).setCell ⟨g, 2, none⟩ (.int .u64 s')).drewN n) (some g) :=
    grown_trans (grown_trans (grown_trans (grown_below (below_drewN (Below.refl _ _) m) _) (setCell_grown _ _ _)) (setCell_grown _ _ _)) (grown_below (below_drewN (Below.refl _ _) n) _)
  exact ⟨⟨hlo, A, c, l, a + 1, s', h2, hr.kept0 hg (fun hn q hq hr => by injection hr with hr; have := hA hn q hq; omega), hA, by omega, hl⟩, hg⟩
theorem bits_255 (x : Int) : 0 ≤ wrap64 (bits .and .u64 x 255) ∧ wrap64 (bits .and .u64 x 255) ≤ 255 := by
  have e : bits .and .u64 x 255 = IntKind.u64.wrap ((BitVec.ofInt 64 x &&& BitVec.ofInt 64 255).toNat : Int) := rfl
  have h : (BitVec.ofInt 64 x &&& BitVec.ofInt 64 255).toNat ≤ 255 := by
    rw [BitVec.toNat_and]
    exact Nat.and_le_right
  have h2 : IntKind.u64.wrap ((BitVec.ofInt 64 x &&& BitVec.ofInt 64 255).toNat : Int) = ((BitVec.ofInt 64 x &&& BitVec.ofInt 64 255).toNat : Int) := by
    simp only [IntKind.wrap, IntKind.bits, IntKind.signed, Bool.false_and, if_neg (show ¬ (false = true) by simp)]
    omega
  rw [e, h2]; unfold wrap64; omega
theorem Went.alloc {w w' : World} {lo g B n : Nat} (o : Obj) (h : Went (w.alloc o) lo g B n w') : Went w lo g B n w' := ⟨h.1, grown_trans (grown_below ((Below.refl _ _).alloc (Nat.le_refl _) o) _) h.2⟩
theorem Went.below {w w' : World} {lo g B n : Nat} (h : Went w lo g B n w') {b : Nat} (hb : b ≤ w.heap.size) (hg : b ≤ g) : Below b w w' := (Below.refl _ _).grown h.2 hb (fun k hk => by injection hk with hk; omega)
theorem Went.mono {a b : World} {lo g B n m : Nat} (h : Went a lo g B n b) (hm : n ≤ m) : Went a lo g B m b := ⟨h.1.mono (by omega), h.2⟩
end Go.Proofs.Ythlkdaogmcjlbaa.K
namespace Go.Proofs.Ythlkdaogmcjlbaa.Cur
open Go.RowKit
set_option maxHeartbeats 1000000 in
theorem next (w : World) (lo g B : Nat) (h : K.Cur w lo g B) (hB : B ≤ 2199023255552) :
    Calls Try.prog 115 #[.pointer (some ⟨g, 0, none⟩)] w fun e w' => ∃ x : Int, e = .returned (.int .i64 x) ∧ (0 ≤ x ∧ x ≤ 255) ∧ K.Went w lo g B 1 w' := by
  obtain ⟨hlo, A, c, l, a, s, how, hr, hA, ha, hl⟩ := h
  obtain ⟨c0, c1, c2, f0, f1, f2, hlt⟩ := how.c3
  by_cases hal : a < l.length
  · obtain ⟨q, o, u, hA2, hu, hc⟩ := hr.at1 hal
    have hq := hA (by omega) q (by rw [hA2]; rfl)
    subst hA2
    rw [List.getElem?_map, List.getElem?_eq_getElem hal] at hu
    injection hu with hu
    subst hu
    have hb : (l[a].toNat : Int) ≤ 255 := by have := l[a].toNat_lt; omega
    have hb0 : (0 : Int) ≤ (l[a].toNat : Int) := by omega
    have h1 : (a : Int) < (l.length : Int) := by omega
    have h2 : (0 : Int) ≤ (a : Int) := by omega
    have hc' : w.cell? ⟨q, o + a, none⟩ = some (.int .u8 (l[a].toNat : Int)) := hc
    clear hc
    generalize (l[a].toNat : Int) = x at *
    have h3 : (a : Int) + 1 ≤ (l.length : Int) := by omega
    go_enter Try.func115, Try.ntmps115
    go_wp2_with fail
    go_quiet (fail)
    go_wp2_with fail
    go_quiet (fail)
    go_wp2_with fail
    go_quiet (fail)
    go_wp2_with fail
    go_ret
    exact ⟨x, rfl, ⟨hb0, hb⟩, K.went1 hlo how hr hA ha hl⟩
  · have h1 : decide ((a : Int) < (l.length : Int)) = false := decide_eq_false (by omega)
    have h3 : decide ((a : Int) + 1 ≤ (l.length : Int)) = false := decide_eq_false (by omega)
    go_enter Try.func115, Try.ntmps115
    go_wp2_with fail
    go_quiet (fail)
    go_wp2_with fail
    go_quiet (fail)
    go_wp2_with fail
    go_ret
    exact ⟨_, rfl, K.bits_255 _, K.went1 hlo how hr hA ha hl⟩
set_option maxHeartbeats 1000000 in
theorem pick (w : World) (lo g B : Nat) (n : Int) (h : K.Cur w lo g B) (hB : B ≤ 1099511627776) :
    Calls Try.prog 111 #[.pointer (some ⟨g, 0, none⟩), .int .i64 n] w fun e w' => ∃ x : Int, e = .returned (.int .i64 x) ∧ (0 ≤ x ∧ (x < n ∨ x = 0)) ∧ K.Went w lo g B 2 w' := by
  have HN := Lib.hid (fun w B h hB => next w lo g B h hB)
  by_cases h1 : n ≤ 1
  · go_enter Try.func111, Try.ntmps111
    go_wp2_with fail
    go_ret
    exact ⟨0, rfl, by omega, h.mono (by omega), World.grownBy.refl _ _⟩
  · by_cases h2 : 200 < n
    · have hn : decide (n ≤ 1) = false := decide_eq_false h1
      go_enter Try.func111, Try.ntmps111
      go_wp2_with fail
      refine (HN.out _ _ h (by omega)).mono ?_
      rintro e w1 ⟨x, rfl, ⟨x0, x1⟩, q1⟩
      go_wp2_with fail
      refine (HN.out _ _ q1.1 (by omega)).mono ?_
      rintro e w2 ⟨y, rfl, ⟨y0, y1⟩, q2⟩
      go_wp2_with fail
      go_ret
      have e1 := Int.emod_nonneg (x * 256 + y) (show n ≠ 0 by omega)
      have e2 := Int.emod_lt_of_pos (x * 256 + y) (show 0 < n by omega)
      exact ⟨_, rfl, ⟨e1, .inl e2⟩, q1.trans q2⟩
    · have hn : decide (n ≤ 1) = false := decide_eq_false h1
      go_enter Try.func111, Try.ntmps111
      go_wp2_with fail
      refine (HN.out _ _ h (by omega)).mono ?_
      rintro e w1 ⟨x, rfl, ⟨x0, x1⟩, q1⟩
      go_wp2_with fail
      go_ret
      have e1 := Int.emod_nonneg x (show n ≠ 0 by omega)
      have e2 := Int.emod_lt_of_pos x (show 0 < n by omega)
      exact ⟨_, rfl, ⟨e1, .inl e2⟩, q1.mono (by omega)⟩
set_option maxHeartbeats 1000000 in
theorem one (w : World) (lo g B : Nat) (n : Int) (h : K.Cur w lo g B) (hB : B ≤ 1099511627776) :
    Calls Try.prog 84 #[.pointer (some ⟨g, 0, none⟩), .int .i64 n] w fun e w' => ∃ b : Bool, e = .returned (.bool b) ∧ K.Went w lo g B 2 w' := by
  go_enter Try.func84, Try.ntmps84
  go_wp2_with fail
  refine (pick _ _ _ _ n h hB).mono ?_
  rintro e w1 ⟨x, rfl, _, q1⟩
  go_wp2_with fail
  go_ret
  exact ⟨_, rfl, q1⟩
set_option maxHeartbeats 1000000 in
theorem among (w : World) (lo g B : Nat) (A : Option Addr) (c : Nat) (l : List Int) (h : K.Cur w lo g B) (hB : B ≤ 1099511627776) (hl : 1 ≤ l.length ∧ l.length ≤ 1048576) (hr : K.Rd w 1 A l.length (l.map (Value.int .i64))) (hne : K.blk A ≠ some g) :
    Calls Try.prog 88 #[.pointer (some ⟨g, 0, none⟩), .slice A l.length c] w fun e w' => ∃ x, e = .returned (.int .i64 x) ∧ x ∈ l ∧ K.Went w lo g B 2 w' := by
  go_enter Try.func88, Try.ntmps88
  go_wp2_with fail
  refine (pick _ _ _ _ l.length h hB).mono ?_
  rintro e w1 ⟨x, rfl, ⟨x0, x1⟩, q1⟩
  obtain ⟨k, rfl⟩ := Int.eq_ofNat_of_zero_le x0
  have hk : k < l.length := by omega
  obtain ⟨q, o, rfl, hc⟩ := (hr.kept q1.2 (fun q hq e => hne (by rw [hq, e]))).int hk
  have h1 : (k : Int) < (l.length : Int) := by omega
  have h2 : (0 : Int) ≤ (k : Int) := by omega
  have hm := List.getElem_mem hk
  generalize l[k] = v at *
  go_wp2_with fail
  go_ret
  exact ⟨v, rfl, hm, q1⟩
end Go.Proofs.Ythlkdaogmcjlbaa.Cur
