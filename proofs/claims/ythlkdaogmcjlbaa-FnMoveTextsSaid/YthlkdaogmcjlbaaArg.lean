/-
  The arguments of the laws, opened: what the reading of an argument says of its cells.
-/
import Derived.Test.YthlkdaogmcjlbaaRows
import Derived.Test.YthlkdaogmcjlbaaKit
import Derived.WalkKit
import Derived.ProofKit
import Derived.OpenShut
import Derived.ShutString
import Derived.ChangeOld
import Derived.SliceStrings
import Derived.Deep.Slices
import Derived.Deep.Strs
import Derived.Lib.SmallJoins
set_option linter.unusedVariables false
set_option maxRecDepth 100000
namespace Go.Proofs.Ythlkdaogmcjlbaa.Arg
open Go.ChangeShapes Go.WideShapes Go.ChangeAt Go.RowKit Go.Deep

theorem own : ownKnob Try.prog.godebug = none := by kernel_rfl
theorem laidOut : laidOutB Try.prog = true := by kernel_rfl

/-- a cell of a run of cells: the run's head lies at a plain place. -/
theorem plain_head {w : World} {a : Addr} {v : Value} (h : w.cell? a = some v) : ∃ g off, a = ⟨g, off, none⟩ := by
  obtain ⟨g, off, spot⟩ := a
  have hs : spot = none := World.cell?_spot h
  subst hs
  exact ⟨g, off, rfl⟩
theorem rd_of {w : World} {size n : Nat} {a : Addr} {xs : List Value} (hl : xs.length = n * size) (hc : ∀ j u, xs[j]? = some u → w.cell? (a.add j) = some u) (hs : 0 < size) : K.Rd w size (some a) n xs := by
  refine ⟨hl, fun hn => ?_⟩
  have h0 : 0 < xs.length := by rw [hl]; exact Nat.mul_pos hn hs
  have hc0 := hc 0 _ (List.getElem?_eq_getElem h0)
  rw [show a.add 0 = a by simp [Addr.add]] at hc0
  obtain ⟨g, off, rfl⟩ := plain_head hc0
  refine ⟨g, off, rfl, World.block_lt_of_cell? w _ hc0, fun j u hu => ?_⟩
  have := hc j u hu
  rwa [Addr.add_lit] at this

section
variable {H : Type} {enc : TypeId × Value → H} {W : World} {base : Nat} {v : Value} {d : DataW H} {p : List MemPlace}
theorem strs (hv : Value.okWide Try.prog W .any base 83 v) (h : DataW.Trod enc Try.prog W 0 (fun _ => true) true 83 v d p) :
    ∃ (A : Option Addr) (c : Nat) (l : List ByteArray), v = .slice A l.length c ∧ K.Rd W 1 A l.length (l.map Value.string) ∧ l.length ≤ 9223372036854775807 ∧ ∀ s ∈ l, s.size ≤ 9223372036854775807 := by
  obtain ⟨A, len, cap, rfl⟩ := okWide_slice Try.underlying83 hv
  obtain ⟨fuel, hf⟩ := h
  rcases open_strings Try.underlying83 Try.underlying9 (by kernel_rfl) hf with ⟨hcs, _⟩ | ⟨x, l, c, ss, hcs, _, hl, hm, hz, _, hcell, hws⟩
  · simp [Value.cells] at hcs
    obtain ⟨rfl, rfl, rfl⟩ := hcs
    exact ⟨none, 0, [], rfl, K.Rd.nil _ _ _, by simp, by simp⟩
  · simp [Value.cells] at hcs
    obtain ⟨rfl, rfl, rfl⟩ := hcs
    have hss : ss.length = cap := by simpa using hz
    have hlen : (ss.take len).length = len := by simp; omega
    simp only [maxLen] at hm
    refine ⟨some x, cap, ss.take len, by rw [hlen], ?_, by omega, fun s hs => ?_⟩
    · refine rd_of (by simp) (fun j u hu => ?_) (by omega)
      rw [List.getElem?_map] at hu
      have hj : j < len := by
        rcases Nat.lt_or_ge j len with h | h
        · exact h
        · rw [List.getElem?_eq_none (by omega)] at hu; simp at hu
      rw [List.getElem?_take, if_pos hj, List.getElem?_eq_getElem (by omega)] at hu
      have := hcell j (by omega)
      rw [this, ← hu]
      simp [List.getD, show j < ss.length by omega]
    · have := hws s (List.mem_of_mem_take hs)
      simp only [maxLen] at this; omega

/-- a slice of records, each of m cells. -/
theorem recs {α : Type} {f : α → List Value} {m : Nat} {Pf : α → Prop} {t e : TypeId} (hf : ∀ a, (f a).length = m) (hm : 0 < m) (ht : Try.prog.underlying t = some (.slice e)) (hC : Try.prog.cellsOf e = m)
    (hel : ∀ (n : Nat) (cs : List Value) (y : DataW H × List MemPlace), DataW.trod enc Try.prog W 0 (fun _ => true) true n e cs = some y → ∃ a, cs = f a ∧ Pf a)
    {fuel : Nat} {cs : List Value} {x : DataW H × List MemPlace} (h : DataW.trod enc Try.prog W 0 (fun _ => true) true fuel t cs = some x) :
    ∃ (A : Option Addr) (c : Nat) (l : List α), cs = [.slice A l.length c] ∧ K.Rd W m A l.length (l.flatMap f) ∧ l.length ≤ 9223372036854775807 ∧ ∀ a ∈ l, Pf a := by
  rcases open_slice ht h with ⟨hcs, _⟩ | ⟨a, len, cap, m', n, D, Pl, hcs, _, hl, hmx, hmm, _, hi⟩
  · exact ⟨none, 0, [], by simpa using hcs, K.Rd.nil _ _ _, by simp, by simp⟩
  · simp only [if_true] at hmm
    subst hmm
    have hex : ∀ i, i < len → ∃ r, (∀ j u, (f r)[j]? = some u → W.cell? (a.add (i * m + j)) = some u) ∧ Pf r := by
      intro i hi'
      obtain ⟨cs', hc, htr⟩ := hi i (by omega)
      obtain ⟨r, rfl, hp⟩ := hel _ _ _ htr
      rw [hC] at hc
      obtain ⟨_, _, hat⟩ := World.cells?_some hc
      refine ⟨r, fun j u hu => ?_, hp⟩
      have hj : j < m := by have := (List.getElem?_eq_some_iff.1 hu).1; rwa [hf] at this
      rw [← Go.Deep.add_add, hat j hj, hu]
    have key : ∀ k, k ≤ len → ∃ l : List α, l.length = k ∧ (∀ j u, (l.flatMap f)[j]? = some u → W.cell? (a.add j) = some u) ∧ ∀ r ∈ l, Pf r := by
      intro k
      induction k with
      | zero => intro _; exact ⟨[], rfl, by simp, by simp⟩
      | succ k ih =>
        intro hk
        obtain ⟨l, h1, h2, h3⟩ := ih (by omega)
        obtain ⟨r, hr, hp⟩ := hex k (by omega)
        refine ⟨l ++ [r], by simp [h1], fun j u hu => ?_, fun q hq => ?_⟩
        · rw [List.flatMap_append] at hu
          have hfl := K.flat_len f m hf l
          rw [h1] at hfl
          rcases Nat.lt_or_ge j (k * m) with hj | hj
          · rw [List.getElem?_append_left (by rw [hfl]; exact hj)] at hu
            exact h2 j u hu
          · rw [List.getElem?_append_right (by rw [hfl]; exact hj), hfl] at hu
            have hu' : (f r)[j - k * m]? = some u := by simpa using hu
            have := hr _ u hu'
            rwa [show k * m + (j - k * m) = j by omega] at this
        · rcases List.mem_append.1 hq with hq | hq
          · exact h3 q hq
          · rw [List.mem_singleton.1 hq]; exact hp
    obtain ⟨l, h1, h2, h3⟩ := key len (Nat.le_refl _)
    simp only [maxLen] at hmx
    subst h1
    exact ⟨some a, m', l, hcs, rd_of (K.flat_len f m hf l) h2 hm, by omega, h3⟩
theorem el_int {n : Nat} {cs : List Value} {y : DataW H × List MemPlace} (h : DataW.trod enc Try.prog W 0 (fun _ => true) true n 3 cs = some y) : ∃ x : Int, cs = [.int .i64 x] ∧ M.i64 x := by
  obtain ⟨x, rfl, _, hw⟩ := DataW.trod_int Try.underlying3 h
  refine ⟨x, rfl, ?_⟩
  have := bounds_i64 hw
  unfold M.i64
  omega
theorem el_str {n : Nat} {cs : List Value} {y : DataW H × List MemPlace} (h : DataW.trod enc Try.prog W 0 (fun _ => true) true n 9 cs = some y) : ∃ s : ByteArray, cs = [.string s] ∧ s.size ≤ 9223372036854775807 := by
  obtain ⟨s, rfl, _, hw⟩ := DataW.trod_string Try.underlying9 h
  refine ⟨s, rfl, ?_⟩
  simp only [maxLen] at hw
  omega
/-- a value that is read, as its cells. -/
theorem open_val {t : TypeId} {v : Value} (h : DataW.Trod enc Try.prog W 0 (fun _ => true) true t v d p) : ∃ n, DataW.trod enc Try.prog W 0 (fun _ => true) true n t v.cells.toList = some (d, p) := h
theorem one_cell {t : TypeId} {A : Option Addr} {n c : Nat} {v : Value} (hv : ∃ a len cap, v = .slice a len cap) (h : v.cells.toList = [.slice A n c]) : v = .slice A n c := by
  obtain ⟨a, len, cap, rfl⟩ := hv
  simp [Value.cells] at h
  obtain ⟨rfl, rfl, rfl⟩ := h
  rfl
theorem el_move (n : Nat) (cs : List Value) (y : DataW H × List MemPlace) (h : DataW.trod enc Try.prog W 0 (fun _ => true) true n 23 cs = some y) : ∃ a : M.Move, cs = M.moveCells a ∧ a.wf := by
  obtain ⟨xs, k, _, _, hlen, hxs, hf⟩ := DataW.trod_struct Try.underlying23 h
  rw [show Try.prog.cellsOf 23 = 3 by kernel_rfl] at hlen
  match cs, hlen with
  | [v0, v1, v2], _ =>
    have e0 := hf 0 _ rfl
    change DataW.trod enc Try.prog W 0 (fun _ => true) true k 3 (List.take (Try.prog.cellsOf 3) (List.drop 0 _)) = xs[0]? at e0
    simp only [show Try.prog.cellsOf 3 = 1 by kernel_rfl, List.drop_zero, List.take_succ_cons, List.take_zero] at e0
    rw [List.getElem?_eq_getElem (by rw [hxs]; decide)] at e0
    obtain ⟨x0, h0, w0⟩ := el_int e0
    simp only [List.cons.injEq, and_true] at h0
    subst h0
    have e1 := hf 1 _ rfl
    change DataW.trod enc Try.prog W 0 (fun _ => true) true k 3 (List.take (Try.prog.cellsOf 3) (List.drop 1 _)) = xs[1]? at e1
    simp only [show Try.prog.cellsOf 3 = 1 by kernel_rfl, List.drop_succ_cons, List.drop_zero, List.take_succ_cons, List.take_zero] at e1
    rw [List.getElem?_eq_getElem (by rw [hxs]; decide)] at e1
    obtain ⟨x1, h1, w1⟩ := el_int e1
    simp only [List.cons.injEq, and_true] at h1
    subst h1
    have e2 := hf 2 _ rfl
    change DataW.trod enc Try.prog W 0 (fun _ => true) true k 3 (List.take (Try.prog.cellsOf 3) (List.drop 2 _)) = xs[2]? at e2
    simp only [show Try.prog.cellsOf 3 = 1 by kernel_rfl, List.drop_succ_cons, List.drop_zero, List.take_succ_cons, List.take_zero] at e2
    rw [List.getElem?_eq_getElem (by rw [hxs]; decide)] at e2
    obtain ⟨x2, h2, w2⟩ := el_int e2
    simp only [List.cons.injEq, and_true] at h2
    subst h2
    exact ⟨⟨x0, x1, x2⟩, rfl, w0, w1, w2⟩
theorem moves (hv : Value.okWide Try.prog W .any base 40 v) (h : DataW.Trod enc Try.prog W 0 (fun _ => true) true 40 v d p) :
    ∃ (A : Option Addr) (c : Nat) (l : List M.Move), v = .slice A l.length c ∧ K.Rd W 3 A l.length (l.flatMap M.moveCells) ∧ l.length ≤ 9223372036854775807 ∧ ∀ s ∈ l, s.wf := by
  obtain ⟨n, hn⟩ := open_val h
  obtain ⟨A, c, l, hcs, h1, h2, h3⟩ := recs (m := 3) M.moveCells_len (by omega) Try.underlying40 (by kernel_rfl) el_move hn
  exact ⟨A, c, l, one_cell (t := 0) (okWide_slice Try.underlying40 hv) hcs, h1, h2, h3⟩
theorem move (hv : Value.okWide Try.prog W .any base 23 v) (h : DataW.Trod enc Try.prog W 0 (fun _ => true) true 23 v d p) :
    ∃ a : M.Move, v = .agg (M.moveCells a).toArray ∧ a.wf := by
  obtain ⟨n, hn⟩ := open_val h
  obtain ⟨cs, rfl, _⟩ := okWide_struct Try.underlying23 hv
  obtain ⟨a, ha, hw⟩ := el_move _ _ _ hn
  refine ⟨a, ?_, hw⟩
  have e : cs.toList = M.moveCells a := ha
  rw [← e]
theorem ints {n : Nat} {cs : List Value} {y : DataW H × List MemPlace} (h : DataW.trod enc Try.prog W 0 (fun _ => true) true n 94 cs = some y) :
    ∃ (A : Option Addr) (c : Nat) (l : List Int), cs = [.slice A l.length c] ∧ K.Rd W 1 A l.length (l.map (Value.int .i64)) ∧ l.length ≤ 9223372036854775807 ∧ ∀ x ∈ l, M.i64 x := by
  obtain ⟨A, c, l, hcs, h1, h2, h3⟩ := recs (α := Int) (f := fun x => [.int .i64 x]) (m := 1) (Pf := M.i64) (fun _ => rfl) (by omega) Try.underlying94 (by kernel_rfl) (fun _ _ _ h => el_int h) h
  refine ⟨A, c, l, hcs, ?_, h2, h3⟩
  rwa [K.flat_one] at h1
theorem bytes (hv : Value.okWide Try.prog W .any base 47 v) (h : DataW.Trod enc Try.prog W 0 (fun _ => true) true 47 v d p) :
    ∃ (A : Option Addr) (c : Nat) (l : List UInt8), v = .slice A l.length c ∧ K.Rd W 1 A l.length (l.map fun b => Value.int .u8 (b.toNat : Int)) ∧ l.length ≤ 9223372036854775807 := by
  obtain ⟨n, hn⟩ := open_val h
  obtain ⟨A, c, l, hcs, h1, h2, _⟩ := recs (α := UInt8) (f := fun b => [.int .u8 (b.toNat : Int)]) (m := 1) (Pf := fun _ => True) (fun _ => rfl) (by omega) Try.underlying47 (by kernel_rfl)
    (fun _ cs _ h => by
      obtain ⟨x, rfl, _, hw⟩ := DataW.trod_int Try.underlying5 h
      have hb := bounds_u8 hw
      refine ⟨UInt8.ofNat x.toNat, ?_, trivial⟩
      have e : ((UInt8.ofNat x.toNat).toNat : Int) = x := by rw [UInt8.toNat_ofNat']; omega
      rw [e]) hn
  refine ⟨A, c, l, one_cell (t := 0) (okWide_slice Try.underlying47 hv) hcs, ?_, h2⟩
  rwa [K.flat_one (fun b : UInt8 => Value.int .u8 (b.toNat : Int))] at h1
theorem el_rod (n : Nat) (cs : List Value) (y : DataW H × List MemPlace) (h : DataW.trod enc Try.prog W 0 (fun _ => true) true n 74 cs = some y) : ∃ a : Int × Int, cs = M.rodCells a ∧ M.i64 a.1 ∧ M.i64 a.2 := by
  obtain ⟨xs, k, _, _, hlen, hxs, hf⟩ := DataW.trod_array Try.underlying74 h
  rw [show Try.prog.cellsOf 74 = 2 by kernel_rfl] at hlen
  match cs, hlen with
  | [v0, v1], _ =>
    have e0 := hf 0 (by omega)
    simp only [show Try.prog.cellsOf 3 = 1 by kernel_rfl, Nat.zero_mul, List.drop_zero, List.take_succ_cons, List.take_zero] at e0
    rw [List.getElem?_eq_getElem (by rw [hxs]; decide)] at e0
    obtain ⟨x0, h0, w0⟩ := el_int e0
    simp only [List.cons.injEq, and_true] at h0
    subst h0
    have e1 := hf 1 (by omega)
    simp only [show Try.prog.cellsOf 3 = 1 by kernel_rfl, Nat.one_mul, List.drop_succ_cons, List.drop_zero, List.take_succ_cons, List.take_zero] at e1
    rw [List.getElem?_eq_getElem (by rw [hxs]; decide)] at e1
    obtain ⟨x1, h1, w1⟩ := el_int e1
    simp only [List.cons.injEq, and_true] at h1
    subst h1
    exact ⟨⟨x0, x1⟩, rfl, w0, w1⟩
theorem frame (hv : Value.okWide Try.prog W .any base 30 v) (h : DataW.Trod enc Try.prog W 0 (fun _ => true) true 30 v d p) :
    ∃ (f : M.Frame) (A : Option Addr) (c : Nat), v = .agg #[.int .i64 f.upper, .int .i64 f.lower, .slice A f.rods.length c] ∧ K.Rd W 2 A f.rods.length (f.rods.flatMap M.rodCells) ∧ f.wf := by
  obtain ⟨v0, v1, v2, y0, y1, y2, n, rfl, _, _, h0, h1, h2⟩ := Go.Joins.open_agg3 Try.underlying30 (by kernel_rfl) (by kernel_rfl) hv h
  obtain ⟨x0, e0, w0⟩ := el_int h0
  obtain ⟨x1, e1, w1⟩ := el_int h1
  obtain ⟨A, c, l, e2, hr, hl, hw⟩ := recs (m := 2) M.rodCells_len (by omega) Try.underlying28 (by kernel_rfl) el_rod h2
  simp only [List.cons.injEq, and_true] at e0 e1 e2
  subst e0 e1 e2
  exact ⟨⟨x0, x1, l⟩, A, c, rfl, hr, w0, w1, hl, hw⟩
end
end Go.Proofs.Ythlkdaogmcjlbaa.Arg
