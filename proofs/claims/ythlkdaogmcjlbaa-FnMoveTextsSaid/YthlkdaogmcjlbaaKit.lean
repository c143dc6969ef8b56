/-
  Small laws on memory and on single operations, over any program.
-/
import Derived.WalkKit
import Derived.Below
import Derived.Lib.Hide
import Derived.Laws.BytesString
import Derived.Laws.OwnMore
import Derived.OwnWalk
import Derived.Deep.Draws
import Derived.Maps.AppendAt
import Derived.Test.YthlkdaogmcjlbaaMath
import Derived.Deep.QuietTactic
set_option linter.unusedVariables false
namespace Go.Proofs.Ythlkdaogmcjlbaa.K
open Go.RowKit

theorem ret_int {k : IntKind} {a b : Int} (h : a = b) : Ending.returned (.int k a) = .returned (.int k b) := by rw [h]
theorem ret_bool {a b : Bool} (h : a = b) : Ending.returned (.bool a) = .returned (.bool b) := by rw [h]
theorem ret_str {a b : ByteArray} (h : a = b) : Ending.returned (.string a) = .returned (.string b) := by rw [h]

/-- a slice of one byte that was just made, as a string. -/
theorem conv1 {P : Program} {src dst e : TypeId} (hs : P.underlying src = some (.slice e)) (he : P.underlying e = some (.int .u8)) (hd : P.underlying dst = some .string) (w : World) (x : Int) (t : TypeId) :
    (convert src dst (.slice (some ⟨w.heap.size, 0, none⟩) 1 1)).run P (w.alloc (.cells #[.int .u8 x] t)) = .ok (.string ⟨#[UInt8.ofNat x.toNat]⟩) (w.alloc (.cells #[.int .u8 x] t)) := by
  rw [run_convert_bytes_string _ src dst e _ _ _ hs he hd]
  rw [run_bytesToString _ _ _ _ [x]]
  · rfl
  · simp [loadCells, loadCellsFrom, go_sem, Addr.add]

/-! ### a slice that is read: its cells, whatever array it lies in -/
/-- the slice value '.slice A n _' reads as the cells xs, n elements of 'size' cells. -/
def Rd (w : World) (size : Nat) (A : Option Addr) (n : Nat) (xs : List Value) : Prop :=
  xs.length = n * size ∧ (0 < n → ∃ g off, A = some ⟨g, off, none⟩ ∧ g < w.heap.size ∧ ∀ j u, xs[j]? = some u → w.cell? ⟨g, off + j, none⟩ = some u)

theorem Rd.nil (w : World) (size : Nat) (A : Option Addr) : Rd w size A 0 [] := ⟨by simp, fun h => absurd h (by omega)⟩
theorem Rd.below {w w' : World} {size n : Nat} {A : Option Addr} {xs : List Value} (h : Rd w size A n xs) (hb : Below w.heap.size w w') : Rd w' size A n xs :=
  ⟨h.1, fun hn => by
    obtain ⟨g, off, e, hg, hc⟩ := h.2 hn
    exact ⟨g, off, e, Nat.lt_of_lt_of_le hg hb.size, fun j u hu => (hb.cell (p := ⟨g, off + j, none⟩) hg).trans (hc j u hu)⟩⟩
theorem Rd.drewN {w : World} {size n : Nat} {A : Option Addr} {xs : List Value} (h : Rd w size A n xs) (k : Nat) : Rd (w.drewN k) size A n xs := h
/-- element k of a slice of one-cell elements. -/
theorem Rd.at1 {w : World} {n : Nat} {A : Option Addr} {xs : List Value} (h : Rd w 1 A n xs) {k : Nat} (hk : k < n) :
    ∃ g off u, A = some ⟨g, off, none⟩ ∧ xs[k]? = some u ∧ w.cell? ⟨g, off + k, none⟩ = some u := by
  obtain ⟨g, off, e, hg, hc⟩ := h.2 (by omega)
  have hl : k < xs.length := by have := h.1; omega
  exact ⟨g, off, xs[k], e, List.getElem?_eq_getElem hl, hc k _ (List.getElem?_eq_getElem hl)⟩
/-- element k of a slice of strings. -/
theorem Rd.str {w : World} {A : Option Addr} {l : List ByteArray} (h : Rd w 1 A l.length (l.map Value.string)) {k : Nat} (hk : k < l.length) :
    ∃ g off, A = some ⟨g, off, none⟩ ∧ w.cell? ⟨g, off + k, none⟩ = some (.string l[k]) := by
  obtain ⟨g, off, u, e, hu, hc⟩ := h.at1 hk
  refine ⟨g, off, e, ?_⟩
  rw [List.getElem?_map, List.getElem?_eq_getElem hk] at hu
  rw [hc, ← hu]; rfl
/-- element k of a slice of ints. -/
theorem Rd.int {w : World} {A : Option Addr} {l : List Int} (h : Rd w 1 A l.length (l.map (Value.int .i64))) {k : Nat} (hk : k < l.length) :
    ∃ g off, A = some ⟨g, off, none⟩ ∧ w.cell? ⟨g, off + k, none⟩ = some (.int .i64 l[k]) := by
  obtain ⟨g, off, u, e, hu, hc⟩ := h.at1 hk
  refine ⟨g, off, e, ?_⟩
  rw [List.getElem?_map, List.getElem?_eq_getElem hk] at hu
  rw [hc, ← hu]; rfl

/-! ### a slice of the program's own: it lies at the head of an array of its own -/
/-- '.slice A n c' is nil, or lies at the head of a block from 'lo' on of element type e; its elements are the cells xs. -/
def Row (w : World) (lo : Nat) (e : TypeId) (size : Nat) (A : Option Addr) (n c : Nat) (xs : List Value) : Prop := w.ownsRow lo e size (.slice A n c) n xs
/-- the block of a slice's array. -/
def blk (A : Option Addr) : Option Nat := A.map (·.block)

section
variable {w w' : World} {lo size n c : Nat} {e : TypeId} {A : Option Addr} {xs : List Value}
theorem Row.own (h : Row w lo e size A n c xs) : w.ownsRow lo e size (.slice A n c) n xs := h
theorem Row.nil (w : World) (lo : Nat) (e : TypeId) (size : Nat) : Row w lo e size none 0 0 [] := World.ownsRow_nil w lo e size
theorem Row.len (h : Row w lo e size A n c xs) : xs.length = n * size := h.1
theorem Row.form (h : Row w lo e size A n c xs) : (A = none ∧ n = 0 ∧ c = 0) ∨ ∃ g cur, A = some ⟨g, 0, none⟩ ∧ lo ≤ g ∧ g < w.heap.size ∧ w.heap[g]? = some (.cells cur e (0, 0)) ∧ n ≤ c ∧ c ≤ maxLen ∧ cur.size = c * size ∧ cur.toList.take (n * size) = xs := by
  rcases h.2 with ⟨h1, h2⟩ | ⟨g, cap, cur, h1, h2, h3, h4, h5, h6, h7⟩
  · injection h1 with a b d
    exact .inl ⟨a, b, d⟩
  · injection h1 with a b d
    subst d
    exact .inr ⟨g, cur, a, h2, (Array.getElem?_eq_some_iff.1 h3).1, h3, h4, h5, h6, h7⟩
theorem Row.max (h : Row w lo e size A n c xs) : n ≤ maxLen ∧ n ≤ c := by
  rcases h.form with ⟨_, rfl, rfl⟩ | ⟨g, cur, _, _, _, _, h1, h2, _⟩
  · exact ⟨Nat.zero_le _, Nat.le_refl _⟩
  · exact ⟨by omega, h1⟩
theorem Row.rd (h : Row w lo e size A n c xs) : Rd w size A n xs := by
  refine ⟨h.1, fun hn => ?_⟩
  rcases h.form with ⟨_, rfl, _⟩ | ⟨g, cur, rfl, _, hg, hh, _, _, _, ht⟩
  · omega
  · refine ⟨g, 0, rfl, hg, fun j u hu => ?_⟩
    rw [Nat.zero_add, cell_of_row w g j cur e (0, 0) hh]
    rw [← ht, List.getElem?_take] at hu
    split at hu
    · simpa using hu
    · cases hu
theorem Row.lt (h : Row w lo e size A n c xs) : ∀ g, blk A = some g → lo ≤ g ∧ g < w.heap.size := by
  intro g hg
  rcases h.form with ⟨rfl, _⟩ | ⟨g', cur, rfl, h1, h2, _⟩
  · simp [blk] at hg
  · simp [blk] at hg; omega
theorem Row.below (h : Row w lo e size A n c xs) (hb : Below w.heap.size w w') : Row w' lo e size A n c xs := by
  refine ⟨h.1, ?_⟩
  rcases h.2 with h0 | ⟨g, cap, cur, h1, h2, h3, h4⟩
  · exact .inl h0
  · exact .inr ⟨g, cap, cur, h1, h2, (hb.block g (Array.getElem?_eq_some_iff.1 h3).1).trans h3, h4⟩
theorem Row.drewN (h : Row w lo e size A n c xs) (k : Nat) : Row (w.drewN k) lo e size A n c xs := h
theorem Row.drew (h : Row w lo e size A n c xs) : Row w.drew lo e size A n c xs := h
theorem Row.alloc (h : Row w lo e size A n c xs) (o : Obj) : Row (w.alloc o) lo e size A n c xs := h.below ((Below.refl _ _).alloc (Nat.le_refl _) o)
theorem Row.more {lo' : Nat} (h : Row w lo e size A n c xs) (hl : lo' ≤ lo) : Row w lo' e size A n c xs := by
  refine ⟨h.1, ?_⟩
  rcases h.2 with h0 | ⟨g, cap, cur, h1, h2, h3⟩
  · exact .inl h0
  · exact .inr ⟨g, cap, cur, h1, by omega, h3⟩
/-- .. while another block is written. -/
theorem Row.kept {row : Option Nat} (h : Row w lo e size A n c xs) (hg : w.grownBy w' row) (hne : ∀ g, blk A = some g → row ≠ some g) : Row w' lo e size A n c xs := by
  refine ⟨h.1, ?_⟩
  rcases h.2 with h0 | ⟨g, cap, cur, h1, h2, h3, h4⟩
  · exact .inl h0
  · injection h1 with a b d
    exact .inr ⟨g, cap, cur, by rw [a, d], h2, (hg.block g (Array.getElem?_eq_some_iff.1 h3).1 (fun hh => hne g (by rw [a]; rfl) hh.symm)).trans h3, h4⟩
theorem Rd.kept {row : Option Nat} (h : Rd w size A n xs) (hg : w.grownBy w' row) (hne : ∀ g, blk A = some g → row ≠ some g) : Rd w' size A n xs :=
  ⟨h.1, fun hn => by
    obtain ⟨g, off, rfl, hlt, hc⟩ := h.2 hn
    exact ⟨g, off, rfl, Nat.lt_of_lt_of_le hlt hg.size, fun j u hu => hg.cell (hc j u hu) (fun hh => hne g rfl hh.symm)⟩⟩
end

/-- only the block 'row', and what is new, may have turned: from two steps. -/
theorem grown_trans {a b c : World} {row : Option Nat} (h : a.grownBy b row) (k : b.grownBy c row) : a.grownBy c row :=
  ⟨k.os.trans h.os, k.tape.trans h.tape, k.output.trans h.output, Nat.le_trans h.size k.size, fun i hi hne => (k.block i (Nat.lt_of_lt_of_le hi h.size) hne).trans (h.block i hi hne)⟩
theorem grown_below {a b : World} (h : Below a.heap.size a b) (row : Option Nat) : a.grownBy b row := ⟨h.os, h.tape, h.output, h.size, fun i hi _ => h.block i hi⟩
theorem below_grown {a b c : World} {B : Nat} {row : Option Nat} (h : Below B a b) (k : b.grownBy c row) (hB : B ≤ b.heap.size) (hr : ∀ g, row = some g → B ≤ g) : Below B a c := h.grown k hB hr

/-! ### append of one element that was just laid -/
theorem append1 {P : Program} {w : World} {ops : Array Oper} {rest : List Oper} {o : Oper} {a : Act} {Q : Exit → Act → World → Prop} (hgd : o.guard = none) (s x : Operand) (t : TypeId)
    (ho : o.op = .call { callee := .builtin .append, args := #[s, x], argTypes := #[t, t] })
    (lo : Nat) (e : TypeId) (i : TypeInfo) (z : Value) (size bytes : Nat) (ht : P.underlying t = some (.slice e)) (hi : P.info? e = some i) (hz : i.zero = some z)
    (hsize : i.size = size) (hby : i.bytes = bytes) (hzs : z.cells.size = size) (hsz : 0 < size)
    (A : Option Addr) (n c : Nat) (xs : List Value) (hs : a.eval s = .slice A n c) (hown : Row w lo e size A n c xs)
    (cs : Array Value) (hcs : cs.size = size) (h1 : ∀ u ∈ cs.toList, u.oneCell' = true) (hx : a.eval x = .slice (some ⟨w.heap.size, 0, none⟩) 1 1)
    (hn : n + 1 ≤ maxLen) (hbytes : (n + 1) * bytes ≤ 140737488355328) (hlo : lo ≤ w.heap.size)
    (h : ∀ g c' w', Row w' lo e size (some ⟨g, 0, none⟩) (n + 1) c' (xs ++ cs.toList) → Below lo w w' → lo ≤ g → (blk A = some g ∨ w.heap.size ≤ g) → w.grownBy w' (blk A) → wpList P ops Q rest (a.put o.dst (.slice (some ⟨g, 0, none⟩) (n + 1) c')) w') :
    wpList P ops Q (o :: rest) a (w.alloc (.cells cs e)) := by
  have hcell : ∀ j u, cs.toList[j]? = some u → (w.alloc (.cells cs e)).cell? ((⟨w.heap.size, 0, none⟩ : Addr).add j) = some u := by
    intro j u hu
    rw [Addr.add_lit, Nat.zero_add, World.cell?_alloc_at _ _ _ _ rfl]
    simpa using hu
  refine wpList_plain hgd fun _ hK => ?_
  obtain ⟨v', w', hrun, h2, h3, _, h5⟩ := run_append_own_at (P := P) (w.alloc (.cells cs e)) lo t o.type e i z size bytes ht hi hz hsize hby hzs hsz _ n xs (hown.alloc _).own ⟨w.heap.size, 0, none⟩ 1 1 cs.toList (by simpa using hcs) hcell h1 hn hbytes (by simp; omega)
  unfold Oper.wp execOp
  simp only [ho, resolve, invoke, builtin, Sem.run_bind, Sem.run_pure, Result.andThen_ok, List.map_toArray, List.map_cons, List.map_nil, hs, hx, hrun]
  have hgw : w.grownBy w' (blk A) := by
    have e1 : Value.ownBlock (.slice A n c) = blk A := by cases A <;> rfl
    rw [e1] at h3
    exact ⟨h3.os, h3.tape, h3.output, Nat.le_trans (by simp) h3.size, fun k hk hne => (h3.block k (by simp; omega) hne).trans (Below.heap_alloc w _ k hk)⟩
  have hA := hown.lt
  rcases h2.2 with ⟨e1, e2⟩ | ⟨g, cap, cur, rfl, g2, g3, g4⟩
  · omega
  · refine hK _ _ (h g cap w' h2 ((Below.refl _ _).grown hgw hlo (fun k hk => (hA k hk).1)) g2 ?_ hgw)
    have e1 : Value.ownBlock (.slice A n c) = blk A := by cases A <;> rfl
    have e2 : Value.ownBlock (.slice (some ⟨g, 0, none⟩) (n + 1) cap) = some g := rfl
    rw [e1, e2] at h5
    rcases h5 with h5 | h5
    · exact .inl h5.symm
    · right
      injection h5 with h5
      simp at h5
      omega

/-- a call that returns a slice of its own: n elements of type e, the cells xs; nothing that was there has turned. -/
def RetRow (w : World) (e : TypeId) (size n : Nat) (xs : List Value) (en : Ending) (w' : World) : Prop :=
  ∃ A c, en = .returned (.slice A n c) ∧ Row w' w.heap.size e size A n c xs ∧ Below w.heap.size w w'

section
variable {w w' : World} {lo size n c : Nat} {e : TypeId} {A : Option Addr} {xs : List Value}
/-- element k's cell j, to be written: where it lies, what it holds, that it may be written. -/
theorem Row.at_ (h : Row w lo e size A n c xs) {j : Nat} (hj : j < n * size) : ∃ g u, A = some ⟨g, 0, none⟩ ∧ lo ≤ g ∧ g < w.heap.size ∧ xs[j]? = some u ∧ w.cell? ⟨g, j, none⟩ = some u ∧ w.frozen? ⟨g, j, none⟩ = false := by
  have hn : 0 < n := by
    rcases Nat.eq_zero_or_pos n with rfl | h0
    · simp at hj
    · exact h0
  rcases h.form with ⟨_, rfl, _⟩ | ⟨g, cur, rfl, h1, h2, hh, _, _, _, ht⟩
  · omega
  · obtain ⟨g', off, e1, _, hc⟩ := h.rd.2 hn
    injection e1 with e1
    injection e1 with e1 e2 _
    subst e1 e2
    have hl : j < xs.length := by rw [h.len]; exact hj
    refine ⟨g, xs[j], rfl, h1, h2, List.getElem?_eq_getElem hl, ?_, frozen_of_row w g j cur e hh⟩
    have := hc j _ (List.getElem?_eq_getElem hl)
    rwa [Nat.zero_add] at this
theorem Row.set_ {g : Nat} (h : Row w lo e size (some ⟨g, 0, none⟩) n c xs) (j : Nat) (u : Value) :
    Row (w.setCell ⟨g, j, none⟩ u) lo e size (some ⟨g, 0, none⟩) n c (xs.set j u) ∧ w.grownBy (w.setCell ⟨g, j, none⟩ u) (some g) := World.ownsRow.stored h j u
end
theorem set_mid {α : Type} (a b : List α) (x : α) {k : Nat} (hk : a.length = k) (hb : 0 < b.length) : (a ++ b).set k x = a ++ [x] ++ b.drop 1 := by
  subst hk
  cases b with
  | nil => simp at hb
  | cons y b => simp [List.set_append_right]

/-- 'make([]T, n)': n elements of the call's own. -/
theorem make1 {P : Program} {w : World} {ops : Array Oper} {rest : List Oper} {o : Oper} {a : Act} {Q : Exit → Act → World → Prop}
    (hg : o.guard = none) (l c : Operand) (t : TypeId) (hop : o.op = Op.makeSlice t l c)
    (lo : Nat) (e : TypeId) (i : TypeInfo) (z : Value) (size bytes : Nat) (h1 : P.underlying t = some (.slice e)) (h2 : P.info? e = some i) (h3 : i.zero = some z) (h4 : i.size = size) (h5 : i.bytes = bytes)
    (n : Nat) (hl : a.eval l = .int .i64 (n : Int)) (hc : a.eval c = .int .i64 (n : Int)) (b2 : bytes * n ≤ 281474976710656) (b3 : n ≤ maxLen) (b4 : lo ≤ w.heap.size)
    (hK : ∀ w', Row w' lo e size (some ⟨w.heap.size, 0, none⟩) n n (madeCells z.cells (n * size)).toList → Below w.heap.size w w' → w.heap.size < w'.heap.size → wpList P ops Q rest (a.put o.dst (.slice (some ⟨w.heap.size, 0, none⟩) n n)) w') :
    wpList P ops Q (o :: rest) a w := by
  subst h5
  refine wpList_make_full w hg l c t hop lo e i z size h1 h2 h3 h4 .i64 .i64 _ _ n hl hc rfl rfl b2 b3 b4 ?_
  intro w' r1 r2
  exact hK w' r1 ⟨r2.os, r2.tape, r2.output, r2.size, fun k hk => r2.block k hk (by simp)⟩ (Row.lt (A := some ⟨w.heap.size, 0, none⟩) (c := n) r1 _ rfl).2

/-- .. a slice of its own and a bool. -/
def RetRowB (w : World) (e : TypeId) (size n : Nat) (xs : List Value) (ok : Bool) (en : Ending) (w' : World) : Prop :=
  ∃ A c, en = .returned (.tuple #[.slice A n c, .bool ok]) ∧ Row w' w.heap.size e size A n c xs ∧ Below w.heap.size w w'

/-- a row that was there before H and one that was laid from H on lie in two blocks. -/
theorem apart {w1 w2 : World} {lo lo' H e e' size size' n n' c c' : Nat} {A B : Option Addr} {xs ys : List Value} (ha : Row w1 lo e size A n c xs) (hb : Row w2 lo' e' size' B n' c' ys) (h1 : w1.heap.size ≤ H) (h2 : H ≤ lo') :
    ∀ g, blk A = some g → blk B ≠ some g := by
  intro g hg hg'
  have := ha.lt g hg
  have := hb.lt g hg'
  omega
/-- what was written lay in blocks from B on. -/
theorem below_of_grown {w w' : World} {B : Nat} {A : Option Addr} (hg : w.grownBy w' (blk A)) (hB : B ≤ w.heap.size) (hA : ∀ g, blk A = some g → B ≤ g) : Below B w w' := (Below.refl _ _).grown hg hB hA
theorem below_drewN {B : Nat} {a w : World} (h : Below B a w) (n : Nat) : Below B a (w.drewN n) := ⟨h.os, h.tape, h.output, h.size, h.block⟩

/-- w', but for draws, is w. -/
def Qt (w w' : World) : Prop := ∃ m, w' = w.drewN m
theorem Qt.refl (w : World) : Qt w w := ⟨0, rfl⟩
theorem Qt.then_ {a b : World} (h : Qt a b) (n : Nat) : Qt a (b.drewN n) := by obtain ⟨m, rfl⟩ := h; exact ⟨m + n, by rw [World.drewN_drewN]⟩
theorem Qt.drew {a b : World} (h : Qt a b) : Qt a b.drew := h.then_ 1
theorem Qt.trans {a b c : World} (h : Qt a b) (k : Qt b c) : Qt a c := by obtain ⟨m, rfl⟩ := k; exact h.then_ m
theorem Qt.below {a b : World} (h : Qt a b) (B : Nat) : Below B a b := by obtain ⟨m, rfl⟩ := h; exact below_drewN (Below.refl _ _) m
theorem Qt.rd {a b : World} (h : Qt a b) {size n : Nat} {A : Option Addr} {xs : List Value} (k : Rd a size A n xs) : Rd b size A n xs := by obtain ⟨m, rfl⟩ := h; exact k
theorem Qt.row {a b : World} (h : Qt a b) {lo size n c : Nat} {e : TypeId} {A : Option Addr} {xs : List Value} (k : Row a lo e size A n c xs) : Row b lo e size A n c xs := by obtain ⟨m, rfl⟩ := h; exact k
theorem Qt.cell {a b : World} (h : Qt a b) (p : Addr) : b.cell? p = a.cell? p := by obtain ⟨m, rfl⟩ := h; rfl

/-- inside a region that draws: a callee that leaves the world alone. -/
theorem quiet_l {P : Program} {f : FuncId} {args : Array Value} {w : World} {n : Nat} {v : Value}
    (h : Calls P f args (w.drewN n) fun e w' => e = .returned v ∧ w.drewN n = w') : Calls P f args (w.drewN n) fun e w'' => e = .returned v ∧ ∃ m, w'' = w.drewN m :=
  h.mono fun _ _ ⟨he, hm⟩ => ⟨he, n, hm.symm⟩

/-! ### elements of several cells -/
theorem flat_len {α : Type} (f : α → List Value) (m : Nat) (hf : ∀ a, (f a).length = m) (l : List α) : (l.flatMap f).length = l.length * m := by
  induction l with
  | nil => simp
  | cons a l ih => rw [List.flatMap_cons, List.length_append, hf, ih, List.length_cons, Nat.succ_mul]; omega
theorem flat_at {α : Type} (f : α → List Value) (m : Nat) (hf : ∀ a, (f a).length = m) (l : List α) (k : Nat) (hk : k < l.length) (j : Nat) (hj : j < m) : (l.flatMap f)[k * m + j]? = (f l[k])[j]? := by
  induction l generalizing k with
  | nil => simp at hk
  | cons a l ih =>
    rw [List.flatMap_cons]
    cases k with
    | zero => rw [Nat.zero_mul, Nat.zero_add, List.getElem?_append_left (by rw [hf]; exact hj)]; rfl
    | succ k =>
      rw [List.getElem?_append_right (by rw [hf, Nat.succ_mul]; omega), hf, Nat.succ_mul, show k * m + m + j - m = k * m + j by omega]
      simp only [List.length_cons] at hk
      rw [ih k (by omega)]; rfl
theorem flat_take {α : Type} (f : α → List Value) (m : Nat) (hf : ∀ a, (f a).length = m) (l : List α) (k : Nat) : (l.flatMap f).take (k * m) = (l.take k).flatMap f := by
  induction l generalizing k with
  | nil => simp
  | cons a l ih =>
    cases k with
    | zero => simp
    | succ k => rw [List.flatMap_cons, List.take_succ_cons, List.flatMap_cons, ← ih k, List.take_append, hf, List.take_of_length_le (by rw [hf, Nat.succ_mul]; omega), Nat.succ_mul]; congr 2; omega
theorem flat_drop {α : Type} (f : α → List Value) (m : Nat) (hf : ∀ a, (f a).length = m) (l : List α) (k : Nat) : (l.flatMap f).drop (k * m) = (l.drop k).flatMap f := by
  induction l generalizing k with
  | nil => simp
  | cons a l ih =>
    cases k with
    | zero => simp
    | succ k => rw [List.flatMap_cons, List.drop_succ_cons, ← ih k, List.drop_append, hf, List.drop_eq_nil_of_le (by rw [hf, Nat.succ_mul]; omega), Nat.succ_mul]; simp
/-- the cells of element k of a slice. -/
theorem Rd.el {w : World} {α : Type} {f : α → List Value} {m : Nat} (hf : ∀ a, (f a).length = m) {A : Option Addr} {l : List α} (h : Rd w m A l.length (l.flatMap f)) {k : Nat} (hk : k < l.length) :
    ∃ g off, A = some ⟨g, off, none⟩ ∧ g < w.heap.size ∧ ∀ j u, (f l[k])[j]? = some u → w.cell? ⟨g, off + (k * m + j), none⟩ = some u := by
  obtain ⟨g, off, e, hg, hc⟩ := h.2 (by omega)
  refine ⟨g, off, e, hg, fun j u hu => hc _ u ?_⟩
  have hj : j < m := by
    have := (List.getElem?_eq_some_iff.1 hu).1
    rwa [hf] at this
  rw [flat_at f m hf l k hk j hj, hu]
/-- the cells of element k of a slice of the program's own: where they lie, that they may be written. -/
theorem Row.el {w : World} {α : Type} {f : α → List Value} {m : Nat} (hf : ∀ a, (f a).length = m) (hm : 0 < m) {lo c : Nat} {e : TypeId} {A : Option Addr} {l : List α} (h : Row w lo e m A l.length c (l.flatMap f)) {k : Nat} (hk : k < l.length) :
    ∃ g, A = some ⟨g, 0, none⟩ ∧ lo ≤ g ∧ g < w.heap.size ∧ (∀ j u, (f l[k])[j]? = some u → w.cell? ⟨g, k * m + j, none⟩ = some u) ∧ ∀ j, w.frozen? ⟨g, j, none⟩ = false := by
  obtain ⟨g, off, e1, hg, hc⟩ := h.rd.el hf hk
  rcases h.form with ⟨rfl, _, _⟩ | ⟨g', cur, rfl, h1, h2, hh, _, _, _, _⟩
  · cases e1
  · injection e1 with e1
    injection e1 with e1 e2 _
    subst e1 e2
    exact ⟨g', rfl, h1, h2, fun j u hu => by have := hc j u hu; rwa [Nat.zero_add] at this, fun j => frozen_of_row w g' j cur e hh⟩
/-! ### the cells of one element, as the walk spells their places -/
theorem Rd.rod {w : World} {A : Option Addr} {l : List (Int × Int)} (h : Rd w 2 A l.length (l.flatMap M.rodCells)) {k : Nat} (hk : k < l.length) :
    ∃ g off, A = some ⟨g, off, none⟩ ∧ g < w.heap.size ∧ w.cell? ⟨g, off + k * 2, none⟩ = some (.int .i64 l[k].1) ∧ w.cell? ⟨g, off + k * 2 + 1, none⟩ = some (.int .i64 l[k].2) := by
  obtain ⟨g, off, e, hg, hc⟩ := h.el M.rodCells_len hk
  exact ⟨g, off, e, hg, by have := hc 0 _ rfl; simpa [Nat.add_assoc] using this, by have := hc 1 _ rfl; simpa [Nat.add_assoc] using this⟩
theorem Row.rod {w : World} {lo c : Nat} {e : TypeId} {A : Option Addr} {l : List (Int × Int)} (h : Row w lo e 2 A l.length c (l.flatMap M.rodCells)) {k : Nat} (hk : k < l.length) :
    ∃ g, A = some ⟨g, 0, none⟩ ∧ lo ≤ g ∧ g < w.heap.size ∧ (∀ j, w.frozen? ⟨g, j, none⟩ = false) ∧ w.cell? ⟨g, k * 2, none⟩ = some (.int .i64 l[k].1) ∧ w.cell? ⟨g, k * 2 + 1, none⟩ = some (.int .i64 l[k].2) := by
  obtain ⟨g, e, h1, h2, hc, hf⟩ := h.el M.rodCells_len (by omega) hk
  exact ⟨g, e, h1, h2, hf, by have := hc 0 _ rfl; simpa using this, by have := hc 1 _ rfl; simpa using this⟩
theorem Rd.move {w : World} {A : Option Addr} {l : List M.Move} (h : Rd w 3 A l.length (l.flatMap M.moveCells)) {k : Nat} (hk : k < l.length) :
    ∃ g off, A = some ⟨g, off, none⟩ ∧ g < w.heap.size ∧ w.cell? ⟨g, off + k * 3, none⟩ = some (.int .i64 l[k].rod) ∧ w.cell? ⟨g, off + k * 3 + 1, none⟩ = some (.int .i64 l[k].part) ∧ w.cell? ⟨g, off + k * 3 + 2, none⟩ = some (.int .i64 l[k].by_) := by
  obtain ⟨g, off, e, hg, hc⟩ := h.el M.moveCells_len hk
  exact ⟨g, off, e, hg, by have := hc 0 _ rfl; simpa [Nat.add_assoc] using this, by have := hc 1 _ rfl; simpa [Nat.add_assoc] using this, by have := hc 2 _ rfl; simpa [Nat.add_assoc] using this⟩
theorem Row.move {w : World} {lo c : Nat} {e : TypeId} {A : Option Addr} {l : List M.Move} (h : Row w lo e 3 A l.length c (l.flatMap M.moveCells)) {k : Nat} (hk : k < l.length) :
    ∃ g, A = some ⟨g, 0, none⟩ ∧ lo ≤ g ∧ g < w.heap.size ∧ (∀ j, w.frozen? ⟨g, j, none⟩ = false) ∧ w.cell? ⟨g, k * 3, none⟩ = some (.int .i64 l[k].rod) ∧ w.cell? ⟨g, k * 3 + 1, none⟩ = some (.int .i64 l[k].part) ∧ w.cell? ⟨g, k * 3 + 2, none⟩ = some (.int .i64 l[k].by_) := by
  obtain ⟨g, e, h1, h2, hc, hf⟩ := h.el M.moveCells_len (by omega) hk
  exact ⟨g, e, h1, h2, hf, by have := hc 0 _ rfl; simpa using this, by have := hc 1 _ rfl; simpa using this, by have := hc 2 _ rfl; simpa using this⟩
theorem Rd.pupil {w : World} {A : Option Addr} {l : List M.Pupil} (h : Rd w 5 A l.length (l.flatMap M.pupilCells)) {k : Nat} (hk : k < l.length) :
    ∃ g off, A = some ⟨g, off, none⟩ ∧ g < w.heap.size ∧ w.cell? ⟨g, off + k * 5, none⟩ = some (.int .i64 l[k].id) ∧ w.cell? ⟨g, off + k * 5 + 1, none⟩ = some (.string l[k].name) ∧ w.cell? ⟨g, off + k * 5 + 2, none⟩ = some (.int .i64 l[k].born) ∧ w.cell? ⟨g, off + k * 5 + 3, none⟩ = some (.int .i64 l[k].cls) ∧ w.cell? ⟨g, off + k * 5 + 4, none⟩ = some (.int .i64 l[k].level) := by
  obtain ⟨g, off, e, hg, hc⟩ := h.el M.pupilCells_len hk
  exact ⟨g, off, e, hg, by have := hc 0 _ rfl; simpa [Nat.add_assoc] using this, by have := hc 1 _ rfl; simpa [Nat.add_assoc] using this, by have := hc 2 _ rfl; simpa [Nat.add_assoc] using this, by have := hc 3 _ rfl; simpa [Nat.add_assoc] using this, by have := hc 4 _ rfl; simpa [Nat.add_assoc] using this⟩
theorem Row.pupil {w : World} {lo c : Nat} {e : TypeId} {A : Option Addr} {l : List M.Pupil} (h : Row w lo e 5 A l.length c (l.flatMap M.pupilCells)) {k : Nat} (hk : k < l.length) :
    ∃ g, A = some ⟨g, 0, none⟩ ∧ lo ≤ g ∧ g < w.heap.size ∧ (∀ j, w.frozen? ⟨g, j, none⟩ = false) ∧ w.cell? ⟨g, k * 5, none⟩ = some (.int .i64 l[k].id) ∧ w.cell? ⟨g, k * 5 + 1, none⟩ = some (.string l[k].name) ∧ w.cell? ⟨g, k * 5 + 2, none⟩ = some (.int .i64 l[k].born) ∧ w.cell? ⟨g, k * 5 + 3, none⟩ = some (.int .i64 l[k].cls) ∧ w.cell? ⟨g, k * 5 + 4, none⟩ = some (.int .i64 l[k].level) := by
  obtain ⟨g, e, h1, h2, hc, hf⟩ := h.el M.pupilCells_len (by omega) hk
  exact ⟨g, e, h1, h2, hf, by have := hc 0 _ rfl; simpa using this, by have := hc 1 _ rfl; simpa using this, by have := hc 2 _ rfl; simpa using this, by have := hc 3 _ rfl; simpa using this, by have := hc 4 _ rfl; simpa using this⟩
theorem Rd.unit {w : World} {A : Option Addr} {l : List M.Unit} (h : Rd w 2 A l.length (l.flatMap M.unitCells)) {k : Nat} (hk : k < l.length) :
    ∃ g off, A = some ⟨g, off, none⟩ ∧ g < w.heap.size ∧ w.cell? ⟨g, off + k * 2, none⟩ = some (.string l[k].name) ∧ w.cell? ⟨g, off + k * 2 + 1, none⟩ = some (.int .i64 l[k].size) := by
  obtain ⟨g, off, e, hg, hc⟩ := h.el M.unitCells_len hk
  exact ⟨g, off, e, hg, by have := hc 0 _ rfl; simpa [Nat.add_assoc] using this, by have := hc 1 _ rfl; simpa [Nat.add_assoc] using this⟩
theorem Row.unit {w : World} {lo c : Nat} {e : TypeId} {A : Option Addr} {l : List M.Unit} (h : Row w lo e 2 A l.length c (l.flatMap M.unitCells)) {k : Nat} (hk : k < l.length) :
    ∃ g, A = some ⟨g, 0, none⟩ ∧ lo ≤ g ∧ g < w.heap.size ∧ (∀ j, w.frozen? ⟨g, j, none⟩ = false) ∧ w.cell? ⟨g, k * 2, none⟩ = some (.string l[k].name) ∧ w.cell? ⟨g, k * 2 + 1, none⟩ = some (.int .i64 l[k].size) := by
  obtain ⟨g, e, h1, h2, hc, hf⟩ := h.el M.unitCells_len (by omega) hk
  exact ⟨g, e, h1, h2, hf, by have := hc 0 _ rfl; simpa using this, by have := hc 1 _ rfl; simpa using this⟩
/-- a row under way: element k's cells, whatever they hold. -/
theorem Row.open2 {w : World} {lo n c : Nat} {e : TypeId} {A : Option Addr} {xs : List Value} (h : Row w lo e 2 A n c xs) {k : Nat} (hk : k < n) :
    ∃ g u0 u1, A = some ⟨g, 0, none⟩ ∧ lo ≤ g ∧ g < w.heap.size ∧ w.cell? ⟨g, k * 2, none⟩ = some u0 ∧ w.cell? ⟨g, k * 2 + 1, none⟩ = some u1 ∧ w.frozen? ⟨g, k * 2, none⟩ = false ∧ w.frozen? ⟨g, k * 2 + 1, none⟩ = false := by
  obtain ⟨g, u0, rfl, h1, h2, _, c0, f0⟩ := h.at_ (j := k * 2) (by omega)
  obtain ⟨g', u1, e1, _, _, _, c1, f1⟩ := h.at_ (j := k * 2 + 1) (by omega)
  injection e1 with e1
  injection e1 with e1 _ _
  subst e1
  exact ⟨g, u0, u1, rfl, h1, h2, c0, c1, f0, f1⟩
theorem set_mid2 {α : Type} (a b : List α) (x y : α) {k : Nat} (hk : a.length = k) (hb : 1 < b.length) : ((a ++ b).set k x).set (k + 1) y = a ++ [x, y] ++ b.drop 2 := by
  rw [set_mid a b x hk (by omega), set_mid (a ++ [x]) (b.drop 1) y (by simp; omega) (by simp; omega), List.drop_drop]
  simp
theorem set_mid3 {α : Type} (a b : List α) (x y z : α) {k : Nat} (hk : a.length = k) (hb : 2 < b.length) : (((a ++ b).set k x).set (k + 1) y).set (k + 2) z = a ++ [x, y, z] ++ b.drop 3 := by
  rw [set_mid2 a b x y hk (by omega), set_mid (a ++ [x, y]) (b.drop 2) z (by simp; omega) (by simp; omega), List.drop_drop]
  simp
theorem set_mid5 {α : Type} (a b : List α) (x y z u v : α) {k : Nat} (hk : a.length = k) (hb : 4 < b.length) : (((((a ++ b).set k x).set (k + 1) y).set (k + 2) z).set (k + 3) u).set (k + 4) v = a ++ [x, y, z, u, v] ++ b.drop 5 := by
  rw [set_mid3 a b x y z hk (by omega), set_mid2 (a ++ [x, y, z]) (b.drop 3) u v (k := k + 3) (by simp; omega) (by simp; omega), List.drop_drop]
  simp
theorem Row.set2 {w : World} {lo n c g : Nat} {e : TypeId} {xs : List Value} (h : Row w lo e 2 (some ⟨g, 0, none⟩) n c xs) (j : Nat) (x y : Value) :
    Row ((w.setCell ⟨g, j, none⟩ x).setCell ⟨g, j + 1, none⟩ y) lo e 2 (some ⟨g, 0, none⟩) n c ((xs.set j x).set (j + 1) y) ∧ w.grownBy ((w.setCell ⟨g, j, none⟩ x).setCell ⟨g, j + 1, none⟩ y) (some g) :=
  ⟨((h.set_ j x).1.set_ (j + 1) y).1, grown_trans (h.set_ j x).2 ((h.set_ j x).1.set_ (j + 1) y).2⟩
theorem Row.open3 {w : World} {lo n c : Nat} {e : TypeId} {A : Option Addr} {xs : List Value} (h : Row w lo e 3 A n c xs) {k : Nat} (hk : k < n) :
    ∃ g u0 u1 u2, A = some ⟨g, 0, none⟩ ∧ lo ≤ g ∧ g < w.heap.size ∧ w.cell? ⟨g, k * 3, none⟩ = some u0 ∧ w.cell? ⟨g, k * 3 + 1, none⟩ = some u1 ∧ w.cell? ⟨g, k * 3 + 2, none⟩ = some u2 ∧ w.frozen? ⟨g, k * 3, none⟩ = false ∧ w.frozen? ⟨g, k * 3 + 1, none⟩ = false ∧ w.frozen? ⟨g, k * 3 + 2, none⟩ = false := by
  obtain ⟨g, u0, rfl, h1, h2, _, c0, f0⟩ := h.at_ (j := k * 3) (by omega)
  obtain ⟨g1, u1, e1, _, _, _, c1, f1⟩ := h.at_ (j := k * 3 + 1) (by omega)
  injection e1 with e1
  injection e1 with e1 _ _
  subst e1
  obtain ⟨g2, u2, e2, _, _, _, c2, f2⟩ := h.at_ (j := k * 3 + 2) (by omega)
  injection e2 with e2
  injection e2 with e2 _ _
  subst e2
  exact ⟨g, u0, u1, u2, rfl, h1, h2, c0, c1, c2, f0, f1, f2⟩
theorem Row.set3 {w : World} {lo n c g : Nat} {e : TypeId} {xs : List Value} (h : Row w lo e 3 (some ⟨g, 0, none⟩) n c xs) (j : Nat) (x y z : Value) :
    Row (((w.setCell ⟨g, j, none⟩ x).setCell ⟨g, j + 1, none⟩ y).setCell ⟨g, j + 2, none⟩ z) lo e 3 (some ⟨g, 0, none⟩) n c (((xs.set j x).set (j + 1) y).set (j + 2) z) ∧ w.grownBy (((w.setCell ⟨g, j, none⟩ x).setCell ⟨g, j + 1, none⟩ y).setCell ⟨g, j + 2, none⟩ z) (some g) := by
  have h0 := h.set_ j x
  have h1 := h0.1.set_ (j + 1) y
  have h2 := h1.1.set_ (j + 2) z
  exact ⟨h2.1, (grown_trans (grown_trans h0.2 h1.2) h2.2)⟩
theorem Row.open5 {w : World} {lo n c : Nat} {e : TypeId} {A : Option Addr} {xs : List Value} (h : Row w lo e 5 A n c xs) {k : Nat} (hk : k < n) :
    ∃ g u0 u1 u2 u3 u4, A = some ⟨g, 0, none⟩ ∧ lo ≤ g ∧ g < w.heap.size ∧ w.cell? ⟨g, k * 5, none⟩ = some u0 ∧ w.cell? ⟨g, k * 5 + 1, none⟩ = some u1 ∧ w.cell? ⟨g, k * 5 + 2, none⟩ = some u2 ∧ w.cell? ⟨g, k * 5 + 3, none⟩ = some u3 ∧ w.cell? ⟨g, k * 5 + 4, none⟩ = some u4 ∧ w.frozen? ⟨g, k * 5, none⟩ = false ∧ w.frozen? ⟨g, k * 5 + 1, none⟩ = false ∧ w.frozen? ⟨g, k * 5 + 2, none⟩ = false ∧ w.frozen? ⟨g, k * 5 + 3, none⟩ = false ∧ w.frozen? ⟨g, k * 5 + 4, none⟩ = false := by
  obtain ⟨g, u0, rfl, h1, h2, _, c0, f0⟩ := h.at_ (j := k * 5) (by omega)
  obtain ⟨g1, u1, e1, _, _, _, c1, f1⟩ := h.at_ (j := k * 5 + 1) (by omega)
  injection e1 with e1
  injection e1 with e1 _ _
  subst e1
  obtain ⟨g2, u2, e2, _, _, _, c2, f2⟩ := h.at_ (j := k * 5 + 2) (by omega)
  injection e2 with e2
  injection e2 with e2 _ _
  subst e2
  obtain ⟨g3, u3, e3, _, _, _, c3, f3⟩ := h.at_ (j := k * 5 + 3) (by omega)
  injection e3 with e3
  injection e3 with e3 _ _
  subst e3
  obtain ⟨g4, u4, e4, _, _, _, c4, f4⟩ := h.at_ (j := k * 5 + 4) (by omega)
  injection e4 with e4
  injection e4 with e4 _ _
  subst e4
  exact ⟨g, u0, u1, u2, u3, u4, rfl, h1, h2, c0, c1, c2, c3, c4, f0, f1, f2, f3, f4⟩
theorem Row.set5 {w : World} {lo n c g : Nat} {e : TypeId} {xs : List Value} (h : Row w lo e 5 (some ⟨g, 0, none⟩) n c xs) (j : Nat) (x y z u v : Value) :
    Row (((((w.setCell ⟨g, j, none⟩ x).setCell ⟨g, j + 1, none⟩ y).setCell ⟨g, j + 2, none⟩ z).setCell ⟨g, j + 3, none⟩ u).setCell ⟨g, j + 4, none⟩ v) lo e 5 (some ⟨g, 0, none⟩) n c (((((xs.set j x).set (j + 1) y).set (j + 2) z).set (j + 3) u).set (j + 4) v) ∧ w.grownBy (((((w.setCell ⟨g, j, none⟩ x).setCell ⟨g, j + 1, none⟩ y).setCell ⟨g, j + 2, none⟩ z).setCell ⟨g, j + 3, none⟩ u).setCell ⟨g, j + 4, none⟩ v) (some g) := by
  have h0 := h.set_ j x
  have h1 := h0.1.set_ (j + 1) y
  have h2 := h1.1.set_ (j + 2) z
  have h3 := h2.1.set_ (j + 3) u
  have h4 := h3.1.set_ (j + 4) v
  exact ⟨h4.1, (grown_trans (grown_trans (grown_trans (grown_trans h0.2 h1.2) h2.2) h3.2) h4.2)⟩

/-- all old cells, and all old marks, as rules for the walk. -/
theorem bcell {W w1 : World} (hb : Below W.heap.size W w1) : (∀ b o, b < W.heap.size → w1.cell? ⟨b, o, none⟩ = W.cell? ⟨b, o, none⟩) ∧ (∀ b o, b < W.heap.size → w1.frozen? ⟨b, o, none⟩ = W.frozen? ⟨b, o, none⟩) :=
  ⟨fun b o h => hb.cell (p := ⟨b, o, none⟩) h, fun b o h => hb.frozen (p := ⟨b, o, none⟩) h⟩
/-- rows over new blocks and over stores elsewhere. -/
theorem Row.setOther {w : World} {lo size n c : Nat} {e : TypeId} {A : Option Addr} {xs : List Value} (h : Row w lo e size A n c xs) {p : Addr} (hp : p.block < lo) (u : Value) : Row (w.setCell p u) lo e size A n c xs := ownsRow_setCell_below h hp u
theorem Rd.alloc {w : World} {size n : Nat} {A : Option Addr} {xs : List Value} (h : Rd w size A n xs) (o : Obj) : Rd (w.alloc o) size A n xs := h.below ((Below.refl _ _).alloc (Nat.le_refl _) o)
theorem Rd.setOther {w : World} {size n : Nat} {A : Option Addr} {xs : List Value} (h : Rd w size A n xs) {p : Addr} (hp : ∀ g, blk A = some g → p.block ≠ g) (u : Value) : Rd (w.setCell p u) size A n xs :=
  ⟨h.1, fun hn => by
    obtain ⟨g, off, rfl, hlt, hc⟩ := h.2 hn
    refine ⟨g, off, rfl, by simpa [World.setCell] using hlt, fun j u' hu => ?_⟩
    rw [World.cell?_setCell_other _ _ _ _ (fun e => hp g rfl (by rw [e]))]
    exact hc j u' hu⟩
theorem flat_one {α : Type} (g : α → Value) (l : List α) : l.flatMap (fun x => [g x]) = l.map g := by
  induction l with
  | nil => rfl
  | cons a l ih => rw [List.flatMap_cons, ih]; rfl

/-- block g holds the values vs, ahead of all else. -/
def Box (w : World) (g : Nat) (vs : List Value) : Prop := g < w.heap.size ∧ ∀ j u, vs[j]? = some u → w.cell? ⟨g, j, none⟩ = some u
theorem Box.new (w : World) (cs : Array Value) (t : TypeId) : Box (w.alloc (.cells cs t)) w.heap.size cs.toList :=
  ⟨by simp, fun j u hu => by rw [World.cell?_alloc_at _ _ _ _ rfl]; simpa using hu⟩
theorem Box.below {w w' : World} {g : Nat} {vs : List Value} (h : Box w g vs) (hb : Below w.heap.size w w') : Box w' g vs :=
  ⟨Nat.lt_of_lt_of_le h.1 hb.size, fun j u hu => (hb.cell (p := ⟨g, j, none⟩) h.1).trans (h.2 j u hu)⟩
theorem Box.alloc {w : World} {g : Nat} {vs : List Value} (h : Box w g vs) (o : Obj) : Box (w.alloc o) g vs := h.below ((Below.refl _ _).alloc (Nat.le_refl _) o)
theorem Box.qt {w w' : World} {g : Nat} {vs : List Value} (h : Box w g vs) (hq : Qt w w') : Box w' g vs := h.below (hq.below _)
theorem Box.kept {w w' : World} {g : Nat} {vs : List Value} {row : Option Nat} (h : Box w g vs) (hg : w.grownBy w' row) (hne : row ≠ some g) : Box w' g vs :=
  ⟨Nat.lt_of_lt_of_le h.1 hg.size, fun j u hu => hg.cell (h.2 j u hu) (fun e => hne e.symm)⟩
theorem Box.c1 {w : World} {g : Nat} {a : Value} (h : Box w g [a]) : w.cell? ⟨g, 0, none⟩ = some a := h.2 0 _ rfl
theorem Box.c2 {w : World} {g : Nat} {a b : Value} (h : Box w g [a, b]) : w.cell? ⟨g, 0, none⟩ = some a ∧ w.cell? ⟨g, 1, none⟩ = some b := ⟨h.2 0 _ rfl, h.2 1 _ rfl⟩
theorem Box.c3 {w : World} {g : Nat} {a b c : Value} (h : Box w g [a, b, c]) : w.cell? ⟨g, 0, none⟩ = some a ∧ w.cell? ⟨g, 1, none⟩ = some b ∧ w.cell? ⟨g, 2, none⟩ = some c := ⟨h.2 0 _ rfl, h.2 1 _ rfl, h.2 2 _ rfl⟩
theorem Box.c5 {w : World} {g : Nat} {a b c d e : Value} (h : Box w g [a, b, c, d, e]) : w.cell? ⟨g, 0, none⟩ = some a ∧ w.cell? ⟨g, 1, none⟩ = some b ∧ w.cell? ⟨g, 2, none⟩ = some c ∧ w.cell? ⟨g, 3, none⟩ = some d ∧ w.cell? ⟨g, 4, none⟩ = some e := ⟨h.2 0 _ rfl, h.2 1 _ rfl, h.2 2 _ rfl, h.2 3 _ rfl, h.2 4 _ rfl⟩
end Go.Proofs.Ythlkdaogmcjlbaa.K
