/-
  More of the kit: append of a whole slice, nil or not; calls that return a struct of their own and a bool.
-/
import Derived.Test.YthlkdaogmcjlbaaKit2
import Derived.RegionTactic
import Derived.Deep.RegionLaw
import Derived.Deep.RegionHeld3
set_option linter.unusedVariables false
namespace Go.Proofs.Ythlkdaogmcjlbaa.K
open Go.RowKit

/-- a block that was just laid, as a slice. -/
theorem Rd.new (w : World) (cs : Array Value) (t : TypeId) (m size : Nat) (h : cs.size = m * size) : Rd (w.alloc (.cells cs t)) size (some ⟨w.heap.size, 0, none⟩) m cs.toList :=
  ⟨by simpa using h, fun _ => ⟨w.heap.size, 0, rfl, by simp, fun j u hu => by rw [World.cell?_alloc_at _ _ _ _ rfl]; simpa using hu⟩⟩
theorem Box.at_ {w : World} {g j : Nat} {vs : List Value} {u : Value} (h : Box w g vs) (hu : vs[j]? = some u) : w.cell? ⟨g, j, none⟩ = some u := h.2 j u hu
theorem Box.setOther {w : World} {g : Nat} {vs : List Value} (h : Box w g vs) {p : Addr} (hp : p.block ≠ g) (u : Value) : Box (w.setCell p u) g vs :=
  ⟨by simpa [World.setCell] using h.1, fun j v hv => by rw [World.cell?_setCell_other _ _ _ _ (fun e => hp (by rw [e]))]; exact h.2 j v hv⟩
/-- a block of one's own that may be written: its cells. -/
def Own (w : World) (g : Nat) (vs : List Value) : Prop := Box w g vs ∧ ∀ j, j < vs.length → w.frozen? ⟨g, j, none⟩ = false
theorem Own.new (w : World) (cs : Array Value) (t : TypeId) : Own (w.alloc (.cells cs t)) w.heap.size cs.toList :=
  ⟨Box.new w cs t, fun j _ => by simp [go_sem]⟩
theorem Own.below {w w' : World} {g : Nat} {vs : List Value} (h : Own w g vs) (hb : Below w.heap.size w w') : Own w' g vs :=
  ⟨h.1.below hb, fun j hj => (hb.frozen (p := ⟨g, j, none⟩) h.1.1).trans (h.2 j hj)⟩
theorem Own.alloc {w : World} {g : Nat} {vs : List Value} (h : Own w g vs) (o : Obj) : Own (w.alloc o) g vs := h.below ((Below.refl _ _).alloc (Nat.le_refl _) o)
theorem Own.drew {w : World} {g : Nat} {vs : List Value} (h : Own w g vs) : Own w.drew g vs := h
theorem Own.c1 {w : World} {g : Nat} {a : Value} (h : Own w g [a]) : w.cell? ⟨g, 0, none⟩ = some a ∧ w.frozen? ⟨g, 0, none⟩ = false ∧ g < w.heap.size := ⟨h.1.c1, h.2 0 (by simp), h.1.1⟩
theorem Own.c2 {w : World} {g : Nat} {a b : Value} (h : Own w g [a, b]) : w.cell? ⟨g, 0, none⟩ = some a ∧ w.cell? ⟨g, 1, none⟩ = some b ∧ w.frozen? ⟨g, 0, none⟩ = false ∧ w.frozen? ⟨g, 1, none⟩ = false ∧ g < w.heap.size := ⟨h.1.c2.1, h.1.c2.2, h.2 0 (by simp), h.2 1 (by simp), h.1.1⟩
theorem Own.set1 {w : World} {g : Nat} {a : Value} (h : Own w g [a]) (u : Value) : Own (w.setCell ⟨g, 0, none⟩ u) g [u] := by
  obtain ⟨c, f, l⟩ := h.c1
  refine ⟨⟨by simpa [World.setCell] using l, fun j v hv => ?_⟩, fun j hj => ?_⟩
  · cases j with
    | zero => simp at hv; subst hv; exact World.cell?_setCell_same' _ _ _ (by rw [c]; rfl)
    | succ j => simp at hv
  · rw [World.frozen?_setCell]; exact h.2 j (by simpa using hj)
theorem Own.set2 {w : World} {g : Nat} {a b : Value} (h : Own w g [a, b]) (u v : Value) : Own ((w.setCell ⟨g, 0, none⟩ u).setCell ⟨g, 1, none⟩ v) g [u, v] := by
  obtain ⟨c, c', f, f', l⟩ := h.c2
  refine ⟨⟨by simpa [World.setCell] using l, fun j x hx => ?_⟩, fun j hj => ?_⟩
  · match j, hx with
    | 0, hx =>
      simp at hx; subst hx
      rw [World.cell?_setCell_other _ _ _ _ (by simp)]
      exact World.cell?_setCell_same' _ _ _ (by rw [c]; rfl)
    | 1, hx =>
      simp at hx; subst hx
      exact World.cell?_setCell_same' _ _ _ (by rw [World.cell?_setCell_other _ _ _ _ (by simp), c']; rfl)
  · rw [World.frozen?_setCell, World.frozen?_setCell]; exact h.2 j (by simpa using hj)
theorem Own.set_ {w : World} {g : Nat} {vs : List Value} (h : Own w g vs) (j : Nat) (hj : j < vs.length) (u : Value) : Own (w.setCell ⟨g, j, none⟩ u) g (vs.set j u) := by
  have hc : (w.cell? ⟨g, j, none⟩).isSome = true := by rw [h.1.2 j _ (List.getElem?_eq_getElem hj)]; rfl
  refine ⟨⟨by simpa [World.setCell] using h.1.1, fun i v hv => ?_⟩, fun i hi => ?_⟩
  · by_cases e : i = j
    · subst e
      rw [List.getElem?_set_self hj] at hv
      injection hv with hv
      subst hv
      exact World.cell?_setCell_same' _ _ _ hc
    · rw [List.getElem?_set_ne (fun h => e h.symm)] at hv
      rw [World.cell?_setCell_other _ _ _ _ (by simp)]
      exact h.1.2 i v hv
  · rw [World.frozen?_setCell]; exact h.2 i (by simpa using hi)
theorem Own.low {w w' : World} {g lo : Nat} {vs : List Value} (h : Own w g vs) (hb : Below lo w w') (hg : g < lo) : Own w' g vs :=
  ⟨⟨Nat.lt_of_lt_of_le h.1.1 hb.size, fun j u hu => (hb.cell (p := ⟨g, j, none⟩) hg).trans (h.1.2 j u hu)⟩, fun j hj => (hb.frozen (p := ⟨g, j, none⟩) hg).trans (h.2 j hj)⟩
theorem Own.setOther {w : World} {g : Nat} {vs : List Value} (h : Own w g vs) {p : Addr} (hp : p.block ≠ g) (u : Value) : Own (w.setCell p u) g vs :=
  ⟨⟨by simpa [World.setCell] using h.1.1, fun j v hv => by rw [World.cell?_setCell_other _ _ _ _ (fun e => hp (by rw [e]))]; exact h.1.2 j v hv⟩, fun j hj => by rw [World.frozen?_setCell]; exact h.2 j hj⟩
theorem owns_form {w : World} {lo size n : Nat} {e : TypeId} {xs : List Value} {v : Value} (h : w.ownsRow lo e size v n xs) : ∃ A c, v = .slice A n c := by
  rcases h.2 with ⟨rfl, rfl⟩ | ⟨g, cap, cur, rfl, _⟩
  · exact ⟨none, 0, rfl⟩
  · exact ⟨_, cap, rfl⟩
theorem own_blk (A : Option Addr) (n c : Nat) : Value.ownBlock (.slice A n c) = blk A := by cases A <;> rfl
/-- append's run: all elements of a slice that reads as ys behind a row of one's own. -/
theorem run_appendN {P : Program} (w : World) (lo : Nat) (t ty e : TypeId) (i : TypeInfo) (z : Value) (size bytes : Nat) (ht : P.underlying t = some (.slice e)) (hi : P.info? e = some i) (hz : i.zero = some z)
    (hsize : i.size = size) (hby : i.bytes = bytes) (hzs : z.cells.size = size) (hsz : 0 < size) (A : Option Addr) (n c : Nat) (xs : List Value) (hown : Row w lo e size A n c xs)
    (B : Option Addr) (m d : Nat) (ys : List Value) (hr : Rd w size B m ys) (h1 : ∀ u ∈ ys, u.oneCell' = true) (hn : n + m ≤ maxLen) (hbytes : (n + m) * bytes ≤ 140737488355328) (hlo : lo ≤ w.heap.size) :
    ∃ A' c' w', (Builtin.append_ #[t, t] ty #[.slice A n c, .slice B m d]).run P w = .ok (.slice A' (n + m) c') w' ∧ Row w' lo e size A' (n + m) c' (xs ++ ys) ∧ w.grownBy w' (blk A) ∧ (blk A' = blk A ∨ blk A' = some w.heap.size) := by
  rcases B with _ | ad
  · have hm : m = 0 := by
      rcases Nat.eq_zero_or_pos m with h0 | h0
      · exact h0
      · obtain ⟨g, off, h, _⟩ := hr.2 h0; cases h
    subst hm
    have hy : ys = [] := List.eq_nil_of_length_eq_zero (by simpa using hr.1)
    subst hy
    refine ⟨A, c, w, ?_, by simpa using hown, World.grownBy.refl w _, .inl rfl⟩
    rcases hown.form with ⟨rfl, rfl, rfl⟩ | ⟨g, cur, rfl, _, _, _, hnc, _⟩
    · simp [Builtin.append_, run_underlying ht, sizeOf, typeInfo, hi, Builtin.lenOf, Builtin.firstCells]
    · simp [Builtin.append_, run_underlying ht, sizeOf, typeInfo, hi, Builtin.lenOf, Builtin.firstCells, hnc, storeCells]
  · have hcells : ∀ j u, ys[j]? = some u → w.cell? (ad.add j) = some u := by
      intro j u hu
      rcases Nat.eq_zero_or_pos m with h0 | h0
      · subst h0
        have hy : ys = [] := List.eq_nil_of_length_eq_zero (by simpa using hr.1)
        subst hy; simp at hu
      · obtain ⟨g, off, h, _, hc⟩ := hr.2 h0
        injection h with h
        subst h
        rw [Addr.add_lit]
        exact hc j u hu
    obtain ⟨v', w', hrun, h2, h3, _, h5⟩ := run_append_own_at (P := P) w lo t ty e i z size bytes ht hi hz hsize hby hzs hsz _ n xs hown.own ad m d ys hr.1 hcells h1 hn hbytes hlo
    obtain ⟨A', c', rfl⟩ := owns_form h2
    rw [own_blk] at h3 h5
    rw [own_blk] at h5
    exact ⟨A', c', w', hrun, h2, h3, h5⟩
theorem appendN {P : Program} {w : World} {ops : Array Oper} {rest : List Oper} {o : Oper} {a : Act} {Q : Exit → Act → World → Prop} (hgd : o.guard = none) (s x : Operand) (t : TypeId)
    (ho : o.op = .call { callee := .builtin .append, args := #[s, x], argTypes := #[t, t] })
    (lo : Nat) (e : TypeId) (i : TypeInfo) (z : Value) (size bytes : Nat) (ht : P.underlying t = some (.slice e)) (hi : P.info? e = some i) (hz : i.zero = some z)
    (hsize : i.size = size) (hby : i.bytes = bytes) (hzs : z.cells.size = size) (hsz : 0 < size) (A : Option Addr) (n c : Nat) (xs : List Value) (hs : a.eval s = .slice A n c) (hown : Row w lo e size A n c xs)
    (B : Option Addr) (m d : Nat) (ys : List Value) (hx : a.eval x = .slice B m d) (hr : Rd w size B m ys) (h1 : ∀ u ∈ ys, u.oneCell' = true) (hn : n + m ≤ maxLen) (hbytes : (n + m) * bytes ≤ 140737488355328) (hlo : lo ≤ w.heap.size)
    (h : ∀ A' c' w', Row w' lo e size A' (n + m) c' (xs ++ ys) → Below lo w w' → w.grownBy w' (blk A) → (blk A' = blk A ∨ blk A' = some w.heap.size) → wpList P ops Q rest (a.put o.dst (.slice A' (n + m) c')) w') :
    wpList P ops Q (o :: rest) a w := by
  refine wpList_plain hgd fun _ hK => ?_
  obtain ⟨A', c', w', hrun, h2, h3, h4⟩ := run_appendN (P := P) w lo t o.type e i z size bytes ht hi hz hsize hby hzs hsz A n c xs hown B m d ys hr h1 hn hbytes hlo
  unfold Oper.wp execOp
  simp only [ho, resolve, invoke, builtin, Sem.run_bind, Sem.run_pure, Result.andThen_ok, List.map_toArray, List.map_cons, List.map_nil, hs, hx, hrun]
  exact hK _ _ (h A' c' w' h2 ((Below.refl _ _).grown h3 hlo (fun k hk => (hown.lt k hk).1)) h3 h4)
/-- .. at a step of a region that draws its order. -/
theorem stepN {P : Program} {w : World} {ops : Array Oper} {o : Oper} {a : Act} {K : Act → World → Prop} {Q : Exit → Act → World → Prop} {E : Prop} (hgd : o.guard = none) (s x : Operand) (t : TypeId)
    (ho : o.op = .call { callee := .builtin .append, args := #[s, x], argTypes := #[t, t] })
    (lo : Nat) (e : TypeId) (i : TypeInfo) (z : Value) (size bytes : Nat) (ht : P.underlying t = some (.slice e)) (hi : P.info? e = some i) (hz : i.zero = some z)
    (hsize : i.size = size) (hby : i.bytes = bytes) (hzs : z.cells.size = size) (hsz : 0 < size) (A : Option Addr) (n c : Nat) (xs : List Value) (hs : a.eval s = .slice A n c) (hown : Row w lo e size A n c xs)
    (B : Option Addr) (m d : Nat) (ys : List Value) (hx : a.eval x = .slice B m d) (hr : Rd w size B m ys) (h1 : ∀ u ∈ ys, u.oneCell' = true) (hn : n + m ≤ maxLen) (hbytes : (n + m) * bytes ≤ 140737488355328) (hlo : lo ≤ w.heap.size)
    (h : ∀ A' c' w', Row w' lo e size A' (n + m) c' (xs ++ ys) → Below lo w w' → w.grownBy w' (blk A) → (blk A' = blk A ∨ blk A' = some w.heap.size) → K (a.put o.dst (.slice A' (n + m) c')) w') :
    if Region.wanted o (yielded ops a.tmps) = true then Oper.wp P o a w K Q else E := by
  have hw : Region.wanted o (yielded ops a.tmps) = true := by simp [Region.wanted, hgd]
  rw [if_pos hw]
  obtain ⟨A', c', w', hrun, h2, h3, h4⟩ := run_appendN (P := P) w lo t o.type e i z size bytes ht hi hz hsize hby hzs hsz A n c xs hown B m d ys hr h1 hn hbytes hlo
  unfold Oper.wp execOp
  simp only [ho, resolve, invoke, builtin, Sem.run_bind, Sem.run_pure, Result.andThen_ok, List.map_toArray, List.map_cons, List.map_nil, hs, hx, hrun]
  exact h A' c' w' h2 ((Below.refl _ _).grown h3 hlo (fun k hk => (hown.lt k hk).1)) h3 h4
/-- an int of a row of one's own: where it lies, that it may be written. -/
theorem Row.int {w : World} {lo c : Nat} {e : TypeId} {A : Option Addr} {l : List Int} (h : Row w lo e 1 A l.length c (l.map (Value.int .i64))) {k : Nat} (hk : k < l.length) :
    ∃ g, A = some ⟨g, 0, none⟩ ∧ lo ≤ g ∧ g < w.heap.size ∧ w.cell? ⟨g, k, none⟩ = some (.int .i64 l[k]) ∧ w.frozen? ⟨g, k, none⟩ = false := by
  obtain ⟨g, u, hA, h1, h2, hu, hc, hf⟩ := h.at_ (j := k) (by omega)
  refine ⟨g, hA, h1, h2, ?_, hf⟩
  rw [List.getElem?_map, List.getElem?_eq_getElem hk] at hu
  rw [hc, ← hu]; rfl
theorem Row.setInt {w : World} {lo c g n : Nat} {e : TypeId} {l : List Int} (h : Row w lo e 1 (some ⟨g, 0, none⟩) n c (l.map (Value.int .i64))) (k : Nat) (v : Int) :
    Row (w.setCell ⟨g, k, none⟩ (.int .i64 v)) lo e 1 (some ⟨g, 0, none⟩) n c ((l.set k v).map (Value.int .i64)) := by
  have h' := (h.set_ k (.int .i64 v)).1
  rwa [← List.map_set] at h'
/-- inside a region: operation i is taken first; the operation comes out of the list written out. -/
theorem takeL {P : Program} {md : Region.Mode} {l : List Oper} {Q : Exit → Act → World → Prop} {S : World → Prop} (i : Nat) {oi : Oper} {v : Value} {fuel : Nat} {listed : Array Bool} {a : Act} {w : World} (hi : l[i]? = some oi)
    (hs : Region.noSelect l.toArray = true) (hf : Region.free md l.toArray listed i = true) (hr : (Region.ready md l.toArray listed).contains i = true)
    (hQ : ∀ c a w, Q (.panic c) (a.put oi.dst v) w → Q (.panic c) a w) (hy : YieldsIf P l.toArray S oi v a) (hS : S w)
    (h : wpAnyH P md l.toArray Q S fuel (listed.setIfInBounds i true) (a.put oi.dst v) w) : wpAnyH P md l.toArray Q S (fuel + 1) listed a w :=
  wpAnyH_take (by simpa using hi) hs hf hr hQ hy hS h
/-- .. which its guard passes over. -/
theorem skipL {P : Program} {md : Region.Mode} {l : List Oper} {Q : Exit → Act → World → Prop} {S : World → Prop} (i : Nat) {oi : Oper} {fuel : Nat} {listed : Array Bool} {a : Act} {w : World} (hi : l[i]? = some oi)
    (hs : Region.noSelect l.toArray = true) (hf : Region.free md l.toArray listed i = true) (hr : (Region.ready md l.toArray listed).contains i = true)
    (hQ : ∀ c a w, Q (.panic c) (a.put oi.dst undef) w → Q (.panic c) a w) (hw : Region.wanted oi (yielded l.toArray a.tmps) = false) (hS : S w)
    (h : wpAnyH P md l.toArray Q S fuel (listed.setIfInBounds i true) (a.put oi.dst undef) w) : wpAnyH P md l.toArray Q S (fuel + 1) listed a w :=
  wpAnyH_take (by simpa using hi) hs hf hr hQ (Or.inr ⟨hw, rfl⟩) hS h
theorem consL {P : Program} {md : Region.Mode} {l : List Oper} {Q : Exit → Act → World → Prop} {S : World → Prop} (i : Nat) {oi : Oper} {fuel : Nat} {listed : Array Bool} {a : Act} {w : World} (hi : l[i]? = some oi) (hr : Region.ready md l.toArray listed = [i])
    (h : ∀ K' : Act → World → Prop, Shut (∀ a w, S w → (S w → wpAnyH P md l.toArray Q S fuel (listed.setIfInBounds i true) a w) → K' a w) → if Region.wanted oi (yielded l.toArray a.tmps) = true then Oper.wp P oi a w K' Q else K' (a.put oi.dst undef) w) : wpAnyH P md l.toArray Q S (fuel + 1) listed a w :=
  wpAnyH_ready (rs := [i]) hr (by simp) (AllReadyH.cons (by simpa using hi) h AllReadyH.nil)
/-- a call that returns a slice of its own, a number and a bool. -/
def RetRowIB (w : World) (e : TypeId) (size n : Nat) (xs : List Value) (v : Int) (ok : Bool) (en : Ending) (w' : World) : Prop :=
  ∃ A c, en = .returned (.tuple #[.slice A n c, .int .i64 v, .bool ok]) ∧ Row w' w.heap.size e size A n c xs ∧ Below w.heap.size w w'
/-- two blocks stay apart over an append to the one. -/
theorem apart_of {A A' B : Option Addr} {H : Nat} (h : blk A' = blk A ∨ blk A' = some H) (hap : ∀ g, blk A = some g → blk B ≠ some g) (hB : ∀ g, blk B = some g → g < H) : ∀ g, blk A' = some g → blk B ≠ some g := by
  intro g hg hb
  rcases h with e | e
  · exact hap g (by rw [← e]; exact hg) hb
  · rw [e] at hg; injection hg with hg
    have := hB g hb; omega
end Go.Proofs.Ythlkdaogmcjlbaa.K
