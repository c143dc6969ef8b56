/-
  Tables of numbers of one's own: a row of slices, each over a row of its own.
-/
import Derived.Test.YtebbihckndjbeaaKit4
import Derived.Test.YtebbihckndjbeaaKit3
import Derived.Test.YtebbihckndjbeaaSliceInt
import Derived.Test.YtebbihckndjbeaaCur
set_option linter.unusedVariables false
namespace Go.Proofs.Ytebbihckndjbeaa.Tab
open Go.RowKit
abbrev TS := List (Option Addr × Nat × List Int)
def TC (ts : TS) : List Value := ts.map fun t => Value.slice t.1 t.2.2.length t.2.1
theorem info : (Try.prog.info? 34).map (fun i => (i.zero, i.size, i.bytes)) = some (some (.slice none 0 0), 1, 24) := by kernel_rfl
theorem infoInt : (Try.prog.info? 3).map (fun i => (i.zero, i.size, i.bytes)) = some (some (.int .i64 0), 1, 8) := by kernel_rfl
structure Tab (w : World) (lo : Nat) (A : Option Addr) (c : Nat) (ts : TS) : Prop where
  row : K.Row w lo 34 1 A ts.length c (TC ts)
  inn : ∀ t ∈ ts, K.Row w lo 3 1 t.1 t.2.2.length t.2.1 (t.2.2.map (Value.int .i64))
  ap : ∀ t ∈ ts, ∀ q, K.blk A = some q → K.blk t.1 ≠ some q
  pw : ts.Pairwise (fun s t => ∀ q, K.blk s.1 = some q → K.blk t.1 ≠ some q)
section
variable {w w' : World} {lo c : Nat} {A : Option Addr} {ts : TS}
theorem Tab.nil (h : K.Row w lo 34 1 A 0 c []) : Tab w lo A c [] := ⟨h, (fun t ht => by cases ht), (fun t ht => by cases ht), List.Pairwise.nil⟩
theorem Tab.below (F : Tab w lo A c ts) (b : Below w.heap.size w w') : Tab w' lo A c ts := ⟨F.row.below b, fun t ht => (F.inn t ht).below b, F.ap, F.pw⟩
theorem Tab.alloc (F : Tab w lo A c ts) (o : Obj) : Tab (w.alloc o) lo A c ts := F.below ((Below.refl _ _).alloc (Nat.le_refl _) o)
theorem Tab.drew (F : Tab w lo A c ts) : Tab w.drew lo A c ts := ⟨F.row.drew, fun t ht => (F.inn t ht).drew, F.ap, F.pw⟩
theorem Tab.drewN (F : Tab w lo A c ts) (n : Nat) : Tab (w.drewN n) lo A c ts := ⟨F.row.drewN n, fun t ht => (F.inn t ht).drewN n, F.ap, F.pw⟩
theorem Tab.more {lo' : Nat} (F : Tab w lo A c ts) (h : lo' ≤ lo) : Tab w lo' A c ts := ⟨F.row.more h, fun t ht => (F.inn t ht).more h, F.ap, F.pw⟩
/-- a block that is neither the table's nor a row's is written. -/
theorem Tab.kept {row : Option Nat} (F : Tab w lo A c ts) (hg : w.grownBy w' row) (h1 : ∀ q, K.blk A = some q → row ≠ some q) (h2 : ∀ t ∈ ts, ∀ q, K.blk t.1 = some q → row ≠ some q) : Tab w' lo A c ts :=
  ⟨F.row.kept hg h1, fun t ht => (F.inn t ht).kept hg (h2 t ht), F.ap, F.pw⟩
/-- a row is put to the end. -/
theorem Tab.push (F : Tab w lo A c ts) {X : Option Addr} {d g c' : Nat} {xs : List Int} (hr : K.Row w' lo 34 1 (some ⟨g, 0, none⟩) (ts.length + 1) c' (TC ts ++ [.slice X xs.length d])) (hg : w.grownBy w' (K.blk A)) (hat : K.blk A = some g ∨ w.heap.size ≤ g)
    (hx : K.Row w lo 3 1 X xs.length d (xs.map (Value.int .i64))) (hxA : ∀ q, K.blk A = some q → K.blk X ≠ some q) (hxt : ∀ t ∈ ts, ∀ q, K.blk t.1 = some q → K.blk X ≠ some q) :
    Tab w' lo (some ⟨g, 0, none⟩) c' (ts ++ [(X, d, xs)]) := by
  have key : ∀ Y : Option Addr, (∀ q, K.blk A = some q → K.blk Y ≠ some q) → (∀ q, K.blk Y = some q → q < w.heap.size) → ∀ q, K.blk (some (⟨g, 0, none⟩ : Addr)) = some q → K.blk Y ≠ some q := by
    intro Y h1 h2 q hq hY
    simp [K.blk] at hq
    subst hq
    rcases hat with h | h
    · exact h1 g h hY
    · have := h2 g hY; omega
  refine ⟨?_, ?_, ?_, ?_⟩
  · rw [List.length_append]
    unfold TC at *
    rw [List.map_append]
    exact hr
  · intro t ht
    rcases List.mem_append.1 ht with h | h
    · exact (F.inn t h).kept hg (fun q hq e => F.ap t h q e hq)
    · rw [List.mem_singleton.1 h]; exact hx.kept hg (fun q hq e => hxA q e hq)
  · intro t ht
    rcases List.mem_append.1 ht with h | h
    · exact key t.1 (F.ap t h) (fun q hq => ((F.inn t h).lt q hq).2)
    · rw [List.mem_singleton.1 h]; exact key X hxA (fun q hq => (hx.lt q hq).2)
  · rw [List.pairwise_append]
    exact ⟨F.pw, List.pairwise_singleton _ _, fun s hs t ht => by rw [List.mem_singleton.1 ht]; exact hxt s hs⟩
end
/-- a call that returns a table of its own and a bool. -/
def RetTabB (w : World) (ls : List (List Int)) (b : Bool) (e : Ending) (w' : World) : Prop :=
  ∃ (A : Option Addr) (c : Nat) (ts : TS), e = .returned (.tuple #[.slice A ts.length c, .bool b]) ∧ Hid (ts.map (fun t => t.2.2) = ls) ∧ Tab w' w.heap.size A c ts ∧ Below w.heap.size w w'
end Go.Proofs.Ytebbihckndjbeaa.Tab
