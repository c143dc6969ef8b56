/-
  Walks: the draws of boards: whatever the code, they return some board of at most seven lines.
-/
import Derived.Test.YtmgegacgjppdbaaCur
import Derived.Test.YtmgegacgjppdbaaSliceInt
import Derived.Test.YtmgegacgjppdbaaKit5
import Derived.Test.YtmgegacgjppdbaaKit3
import Derived.Deep.DeepCutAuto
import Derived.Deep.RegionHeld3
set_option linter.unusedVariables false
namespace Go.Proofs.Ytmgegacgjppdbaa.BoardD
open Go.RowKit
theorem grow_low {w a b : World} {row : Option Nat} {lo : Nat} (h : w.grownBy a row) (hb : Below lo a b) (hlo : w.heap.size ≤ lo) : w.grownBy b row :=
  ⟨hb.os.trans h.os, hb.tape.trans h.tape, hb.output.trans h.output, Nat.le_trans h.size hb.size, fun i hi hne => (hb.block i (by omega)).trans (h.block i hi hne)⟩
/-- a board in the making beside a cursor: its box lies at w.heap.size + 1, the result's at w.heap.size. -/
structure Bd (w wr : World) (lo g Bq : Nat) (B : Option Addr) (d : Nat) (xs : List Int) (C : Option Addr) (e : Nat) (ys : List Int) : Prop where
  row1 : K.Row wr (w.heap.size + 1 + 1) 3 1 B xs.length d (xs.map (Value.int .i64))
  row2 : K.Row wr (w.heap.size + 1 + 1) 3 1 C ys.length e (ys.map (Value.int .i64))
  ap : ∀ q, K.blk B = some q → K.blk C ≠ some q
  box : K.Own wr (w.heap.size + 1) [.slice B xs.length d, .slice C ys.length e]
  res : K.Own wr w.heap.size [.slice none 0 0, .slice none 0 0]
  cur : K.Cur wr lo g Bq
  gro : w.grownBy wr (some g)
  glt : g < w.heap.size
theorem Bd.start {w : World} {lo g Bq : Nat} (h : K.Cur w lo g Bq) (t : TypeId) : Bd w ((w.alloc (.cells #[.slice none 0 0, .slice none 0 0] t)).alloc (.cells #[.slice none 0 0, .slice none 0 0] t)) lo g Bq none 0 [] none 0 [] :=
  ⟨K.Row.nil _ _ _ _, K.Row.nil _ _ _ _, fun g h => by simp [K.blk] at h, by have h := K.Own.new (w.alloc (.cells #[.slice none 0 0, .slice none 0 0] t)) #[.slice none 0 0, .slice none 0 0] t; rw [World.size_alloc] at h; exact h, (K.Own.new w #[.slice none 0 0, .slice none 0 0] t).alloc _, (h.alloc _).alloc _, K.grown_below (((Below.refl _ _).alloc (Nat.le_refl _) _).alloc (by simp) _) _, h.lt.2⟩
section
variable {w wr w2 : World} {lo g Bq : Nat} {B C : Option Addr} {d e : Nat} {xs ys : List Int}
theorem Bd.size (F : Bd w wr lo g Bq B d xs C e ys) : w.heap.size + 1 + 1 ≤ wr.heap.size := F.box.1.1
theorem Bd.drew (F : Bd w wr lo g Bq B d xs C e ys) : Bd w wr.drew lo g Bq B d xs C e ys :=
  ⟨F.row1.drew, F.row2.drew, F.ap, F.box.drew, F.res.drew, F.cur.drew, K.grown_trans F.gro (K.grown_below (Below.refl _ _).drew _), F.glt⟩
theorem Bd.alloc (F : Bd w wr lo g Bq B d xs C e ys) (o : Obj) : Bd w (wr.alloc o) lo g Bq B d xs C e ys :=
  ⟨F.row1.alloc o, F.row2.alloc o, F.ap, F.box.alloc o, F.res.alloc o, F.cur.alloc o, K.grown_trans F.gro (K.grown_below ((Below.refl _ _).alloc (Nat.le_refl _) _) _), F.glt⟩
theorem Bd.went {n : Nat} (F : Bd w wr lo g Bq B d xs C e ys) (h : K.Went wr lo g Bq n w2) : Bd w w2 lo g (Bq + n) B d xs C e ys :=
  ⟨F.row1.kept h.2 (fun q hq e => by injection e with e; have := (F.row1.lt q hq).1; have := F.glt; omega), F.row2.kept h.2 (fun q hq e => by injection e with e; have := (F.row2.lt q hq).1; have := F.glt; omega), F.ap, F.box.kept h.2 (fun e => by injection e with e; have := F.glt; omega), F.res.kept h.2 (fun e => by injection e with e; have := F.glt; omega), h.1, K.grown_trans F.gro h.2, F.glt⟩
theorem Bd.more {Bq' : Nat} (F : Bd w wr lo g Bq B d xs C e ys) (h : Bq ≤ Bq') : Bd w wr lo g Bq' B d xs C e ys := ⟨F.row1, F.row2, F.ap, F.box, F.res, F.cur.mono h, F.gro, F.glt⟩
theorem Bd.low (F : Bd w wr lo g Bq B d xs C e ys) (hb : Below (w.heap.size + 1 + 1) wr w2) : K.Own w2 (w.heap.size + 1) [.slice B xs.length d, .slice C ys.length e] ∧ K.Own w2 w.heap.size [.slice none 0 0, .slice none 0 0] :=
  ⟨F.box.low hb (by omega), F.res.low hb (by omega)⟩
/-- a store into a block from the result's on, but for the cursor. -/
theorem Bd.curSet (F : Bd w wr lo g Bq B d xs C e ys) {p : Addr} (hp : w.heap.size ≤ p.block) (u : Value) : K.Cur (wr.setCell p u) lo g Bq ∧ w.grownBy (wr.setCell p u) (some g) :=
  ⟨F.cur.kept (K.setCell_grown wr p u) (fun q hq => by injection hq with hq; have := F.cur.lt; have := F.glt; omega) (fun e => by injection e with e; have := F.glt; omega), grow_low F.gro (lo := w.heap.size) ((Below.refl _ _).setCell hp u) (Nat.le_refl _)⟩
theorem Bd.pushL (F : Bd w wr lo g Bq B d xs C e ys) {x : Int} {A' : Option Addr} {c' : Nat} (hr : K.Row w2 (w.heap.size + 1 + 1) 3 1 A' (xs.length + 1) c' (xs.map (Value.int .i64) ++ [.int .i64 x])) (hb : Below (w.heap.size + 1 + 1) wr w2) (hg : wr.grownBy w2 (K.blk B)) (hat : K.blk A' = K.blk B ∨ K.blk A' = some wr.heap.size) :
    Bd w (w2.setCell ⟨w.heap.size + 1, 0, none⟩ (.slice A' (xs.length + 1) c')) lo g Bq A' c' (xs ++ [x]) C e ys := by
  have h2 := F.row2.kept hg (fun q hq e => F.ap q e hq)
  have hC := F.row2.lt
  have hB := F.row1.lt
  have hglt := F.glt
  have hc2 : K.Cur w2 lo g Bq := F.cur.kept hg (fun q hq => by have := (hB q hq).1; have := F.cur.lt; omega) (fun e => by have := (hB g e).1; omega)
  refine ⟨?_, h2.setOther (by simp) _, ?_, ?_, ?_, ?_, ?_, F.glt⟩
  · rw [List.map_append, List.length_append]; exact hr.setOther (by simp) _
  · intro q hq hq'
    rcases hat with h | h
    · exact F.ap _ (by rw [← h]; exact hq) hq'
    · rw [h] at hq; injection hq with hq; have := hC _ hq'; omega
  · have h := (F.low hb).1.set_ 0 (by simp) (.slice A' (xs.length + 1) c')
    rw [List.length_append]; exact h
  · exact (F.low hb).2.setOther (by simp) _
  · exact hc2.kept (K.setCell_grown w2 _ _) (fun q hq => by injection hq with hq; simp only at hq; have := F.cur.lt; omega) (fun e => by injection e with e; simp only at e; omega)
  · exact grow_low (grow_low F.gro hb (by omega)) (lo := w.heap.size) ((Below.refl _ _).setCell (by simp) _) (Nat.le_refl _)
theorem Bd.pushR (F : Bd w wr lo g Bq B d xs C e ys) {x : Int} {A' : Option Addr} {c' : Nat} (hr : K.Row w2 (w.heap.size + 1 + 1) 3 1 A' (ys.length + 1) c' (ys.map (Value.int .i64) ++ [.int .i64 x])) (hb : Below (w.heap.size + 1 + 1) wr w2) (hg : wr.grownBy w2 (K.blk C)) (hat : K.blk A' = K.blk C ∨ K.blk A' = some wr.heap.size) :
    Bd w (w2.setCell ⟨w.heap.size + 1, 1, none⟩ (.slice A' (ys.length + 1) c')) lo g Bq B d xs A' c' (ys ++ [x]) := by
  have h2 := F.row1.kept hg (fun q hq e => F.ap q hq e)
  have hC := F.row2.lt
  have hB := F.row1.lt
  have hglt := F.glt
  have hc2 : K.Cur w2 lo g Bq := F.cur.kept hg (fun q hq => by have := (hC q hq).1; have := F.cur.lt; omega) (fun e => by have := (hC g e).1; omega)
  refine ⟨h2.setOther (by simp) _, ?_, ?_, ?_, ?_, ?_, ?_, F.glt⟩
  · rw [List.map_append, List.length_append]; exact hr.setOther (by simp) _
  · intro q hq hq'
    rcases hat with h | h
    · exact F.ap _ hq (by rw [← h]; exact hq')
    · rw [h] at hq'; injection hq' with hq'; have := hB _ hq; omega
  · have h := (F.low hb).1.set_ 1 (by simp) (.slice A' (ys.length + 1) c')
    rw [List.length_append]; exact h
  · exact (F.low hb).2.setOther (by simp) _
  · exact hc2.kept (K.setCell_grown w2 _ _) (fun q hq => by injection hq with hq; simp only at hq; have := F.cur.lt; omega) (fun e => by injection e with e; simp only at e; omega)
  · exact grow_low (grow_low F.gro hb (by omega)) (lo := w.heap.size) ((Below.refl _ _).setCell (by simp) _) (Nat.le_refl _)
theorem Bd.setL {q k : Nat} (F : Bd w wr lo g Bq (some ⟨q, 0, none⟩) d xs C e ys) (v : Int) :
    Bd w (wr.setCell ⟨q, k, none⟩ (.int .i64 v)) lo g Bq (some ⟨q, 0, none⟩) d (xs.set k v) C e ys := by
  have hq := (F.row1.lt q rfl).1
  have hc := F.curSet (p := ⟨q, k, none⟩) (by simp only; omega) (.int .i64 v)
  refine ⟨?_, F.row2.setNe (fun p hp e => F.ap q rfl (by rw [hp, ← e])) _, F.ap, ?_, F.res.setOther (by simp only; omega) _, hc.1, hc.2, F.glt⟩
  · rw [List.length_set]; exact F.row1.setInt k v
  · rw [List.length_set]; exact F.box.setOther (by simp only; omega) _
theorem Bd.setR {q k : Nat} (F : Bd w wr lo g Bq B d xs (some ⟨q, 0, none⟩) e ys) (v : Int) :
    Bd w (wr.setCell ⟨q, k, none⟩ (.int .i64 v)) lo g Bq B d xs (some ⟨q, 0, none⟩) e (ys.set k v) := by
  have hq := (F.row2.lt q rfl).1
  have hc := F.curSet (p := ⟨q, k, none⟩) (by simp only; omega) (.int .i64 v)
  refine ⟨F.row1.setNe (fun p hp e => F.ap p hp (by rw [← e]; rfl)) _, ?_, F.ap, ?_, F.res.setOther (by simp only; omega) _, hc.1, hc.2, F.glt⟩
  · rw [List.length_set]; exact F.row2.setInt k v
  · rw [List.length_set]; exact F.box.setOther (by simp only; omega) _
theorem Bd.cutR {k : Nat} (F : Bd w wr lo g Bq B d xs C e ys) (hk : k ≤ ys.length) :
    Bd w (wr.setCell ⟨w.heap.size + 1, 1, none⟩ (.slice C k e)) lo g Bq B d xs C e (ys.take k) := by
  have hc := F.curSet (p := ⟨w.heap.size + 1, 1, none⟩) (by simp) (.slice C k e)
  have hl : (ys.take k).length = k := by rw [List.length_take]; omega
  refine ⟨F.row1.setOther (by simp) _, ?_, F.ap, ?_, F.res.setOther (by simp) _, hc.1, hc.2, F.glt⟩
  · have h := (F.row2.cut k hk).setOther (p := ⟨w.heap.size + 1, 1, none⟩) (by simp) (.slice C k e)
    rw [Nat.mul_one, ← List.map_take] at h
    rw [hl]; exact h
  · have h := F.box.set_ 1 (by simp) (.slice C k e)
    rw [hl]; exact h
theorem Bd.fin {B0 n : Nat} (F : Bd w wr lo g Bq B d xs C e ys) (hB : Bq ≤ B0 + n) (u v : Value) :
    K.Rd ((wr.setCell ⟨w.heap.size, 0, none⟩ u).setCell ⟨w.heap.size, 1, none⟩ v) 1 B xs.length (xs.map (Value.int .i64)) ∧ K.Rd ((wr.setCell ⟨w.heap.size, 0, none⟩ u).setCell ⟨w.heap.size, 1, none⟩ v) 1 C ys.length (ys.map (Value.int .i64)) ∧ (∀ q, K.blk B = some q → w.heap.size ≤ q) ∧ (∀ q, K.blk C = some q → w.heap.size ≤ q) ∧ K.Went w lo g B0 n ((wr.setCell ⟨w.heap.size, 0, none⟩ u).setCell ⟨w.heap.size, 1, none⟩ v) := by
  have h0 := F.glt
  have h1 := F.cur.lt
  have c1 := F.curSet (p := ⟨w.heap.size, 0, none⟩) (Nat.le_refl _) u
  refine ⟨((F.row1.setOther (p := ⟨w.heap.size, 0, none⟩) (by simp only; omega) u).setOther (p := ⟨w.heap.size, 1, none⟩) (by simp only; omega) v).rd, ((F.row2.setOther (p := ⟨w.heap.size, 0, none⟩) (by simp only; omega) u).setOther (p := ⟨w.heap.size, 1, none⟩) (by simp only; omega) v).rd, (fun q hq => by have := (F.row1.lt q hq).1; omega), (fun q hq => by have := (F.row2.lt q hq).1; omega), ?_, ?_⟩
  · exact (c1.1.kept (K.setCell_grown _ ⟨w.heap.size, 1, none⟩ v) (fun q hq => by injection hq with hq; simp only at hq; omega) (fun e => by injection e with e; simp only at e; omega)).mono hB
  · exact grow_low c1.2 (lo := w.heap.size) ((Below.refl w.heap.size _).setCell (p := ⟨w.heap.size, 1, none⟩) (Nat.le_refl _) v) (Nat.le_refl _)
/-- what a draw of a board leaves. -/
def Ret5 (w : World) (lo g Bq n : Nat) (e : Ending) (w' : World) : Prop :=
  ∃ (A : Option Addr) (c : Nat) (l : List Int) (B : Option Addr) (d : Nat) (k : List Int), e = .returned (.agg #[.slice A l.length c, .slice B k.length d]) ∧ l.length ≤ 7 ∧ k.length ≤ 7 ∧ K.Rd w' 1 A l.length (l.map (Value.int .i64)) ∧ K.Rd w' 1 B k.length (k.map (Value.int .i64)) ∧ (∀ q, K.blk A = some q → w.heap.size ≤ q) ∧ (∀ q, K.blk B = some q → w.heap.size ≤ q) ∧ K.Went w lo g Bq n w'
end
def linesL : List Int := [1, 2, 3, 6]
theorem linesL_bd : ∀ x ∈ linesL, 1 ≤ x ∧ x ≤ 6 := by decide
set_option maxHeartbeats 1000000 in
theorem lines5 (w : World) (lo g B : Nat) (h : K.Cur w lo g B) (hB : B ≤ 1099511627776) :
    Calls Try.prog 82 #[.pointer (some ⟨g, 0, none⟩)] w fun e w' => ∃ x : Int, e = .returned (.int .i64 x) ∧ (1 ≤ x ∧ x ≤ 6) ∧ K.Went w lo g B 2 w' := by
  have hg := h.lt
  go_enter Try.func82, Try.ntmps82
  go_wp2_with fail
  refine (Cur.among _ lo g B (some ⟨w.heap.size, 0, none⟩) 4 linesL (h.alloc _) hB (by decide) (K.Rd.new w _ _ 4 1 rfl) (fun e => by simp [K.blk] at e; omega)).mono ?_
  rintro e w1 ⟨x, rfl, hx, q1⟩
  go_wp2_with fail
  go_ret
  exact ⟨x, rfl, linesL_bd x hx, K.Went.alloc _ q1⟩
def lit5 : List Int := [0, 1, 4, 5, 9, 30]
def lit6 : List Int := [0, 0, 1, 2, 3, 29]
def lit16 : List Int := [-1, 31]
def lit18 : List Int := [-1, 31]
set_option maxRecDepth 100000 in
set_option maxHeartbeats 8000000 in
theorem board5 (w : World) (lo g B n : Nat) (h : K.Cur w lo g B) (hB : B ≤ 1000000) (hn : 1 ≤ n ∧ n ≤ 6) :
    Calls Try.prog 83 #[.pointer (some ⟨g, 0, none⟩), .int .i64 (n : Int)] w (Ret5 w lo g B 40) := by
  obtain ⟨i0, hi0, hz0, hz1, hz2⟩ := info_parts SlInt.info
  obtain ⟨hn1, hn6⟩ := hn
  have hF := Lib.hid (Bd.start h 27)
  have hglo := h.lt.1
  clear h
  go_enter Try.func83, Try.ntmps83
  go_wp2_with fail
  go_loopw [6] (fun i wr => ∃ (k : Nat) (A : Option Addr) (a : Nat) (xs : List Int) (C : Option Addr) (c : Nat) (ys : List Int), k ≤ n ∧ i = .int .i64 (k : Int) ∧ Hid (xs.length = k) ∧ Hid (ys.length = k) ∧ Hid (Bd w wr lo g (B + 4 * k) A a xs C c ys)) (fun i _ => n - (intOf i).toNat)
  case atStart => exact ⟨0, none, 0, [], none, 0, [], Nat.zero_le _, rfl, Lib.hid rfl, Lib.hid rfl, hF⟩
  case round =>
    clear hF
    obtain ⟨k, A, a, xs, C, c, ys, hk, rfl, HX, HY, HF⟩ := hrel
    by_cases hlt : k < n
    · have h1 : (k : Int) < (n : Int) := by omega
      have hxm : xs.length + 1 ≤ maxLen := by rw [HX.out]; simp only [maxLen]; omega
      have hym : ys.length + 1 ≤ maxLen := by rw [HY.out]; simp only [maxLen]; omega
      have hx9 : xs.length ≤ 9 := by rw [HX.out]; omega
      have hy9 : ys.length ≤ 9 := by rw [HY.out]; omega
      go_upto_region 5 with fail
      go_cut [] (fun wx => ∃ (A5 : Option Addr) (c5 : Nat) (x5 : Int), Bd w wx lo g (B + 4 * k + 2) A5 c5 (xs ++ [x5]) C c ys)
      case first =>
        go_upto_region 5 with fail
        obtain ⟨W5, hW5⟩ : ∃ X, X = World.drew wr := ⟨_, rfl⟩
        have F0 := Lib.hid (show Bd w W5 lo g (B + 4 * k) A a xs C c ys by rw [hW5]; exact HF.out.drew)
        refine wp_region_held_drew (S := fun _ => True) (by kernel_rfl) trivial (fun hHeld => ?_)
        rw [← hW5]
        clear hW5 HF
        refine K.takeL 0 (v := ?_) rfl (by kernel_rfl) (by kernel_rfl) (by kernel_rfl) (fun _ _ _ h => h) (Or.inl ⟨rfl, ?_⟩) (by assumption) ?_
        rotate_left
        · intro w hSw; (try dsimp only at hSw); first | (go_simp; done) | (go_simp; with_reducible rfl)
        simp only [Act.put, List.setIfInBounds_toArray, List.set_cons_zero, List.set_cons_succ]
        refine K.takeL 2 (v := ?_) rfl (by kernel_rfl) (by kernel_rfl) (by kernel_rfl) (fun _ _ _ h => h) (Or.inl ⟨rfl, ?_⟩) (by assumption) ?_
        rotate_left
        · intro w hSw; (try dsimp only at hSw); first | (go_simp; done) | (go_simp; with_reducible rfl)
        simp only [Act.put, List.setIfInBounds_toArray, List.set_cons_zero, List.set_cons_succ]
        refine wpAnyH_ready (rs := [1, 3]) (by kernel_rfl) (by simp) (AllReadyH.cons (by rfl) (fun KK hK => ?_) (AllReadyH.cons (by rfl) (fun KK hK => ?_) AllReadyH.nil))
        · skip
          obtain ⟨b0, b1, y0, y1, bg⟩ := F0.out.box.c2
          go_simp
          clear b0 b1 y0 y1 bg
          refine hK.out _ _ trivial (fun hHeld => ?_)
          clear hK KK
          try simp only [Act.put, List.setIfInBounds_toArray, List.set_cons_zero, List.set_cons_succ]
          refine K.consL 3 rfl (by kernel_rfl) (fun KK hK => ?_)
          go_simp
          have F1 := Lib.hid (F0.out.alloc (.cells #[.int .i64 (0), .int .i64 (1), .int .i64 (4), .int .i64 (5), .int .i64 (9), .int .i64 (30)] 3))
          have rl := K.Rd.new W5 #[.int .i64 (0), .int .i64 (1), .int .i64 (4), .int .i64 (5), .int .i64 (9), .int .i64 (30)] 3 6 1 rfl
          have hsz := F0.out.size
          refine hK.out _ _ trivial (fun hHeld => ?_)
          clear hK KK
          try simp only [Act.put, List.setIfInBounds_toArray, List.set_cons_zero, List.set_cons_succ]
          refine K.consL 4 rfl (by kernel_rfl) (fun KK hK => ?_)
          go_simp
          refine (Cur.among _ lo g _ (some ⟨W5.heap.size, 0, none⟩) 6 lit5 F1.out.cur (by omega) (by decide) rl (fun e => by simp [K.blk] at e; have := F0.out.glt; omega)).mono ?_
          rintro e w3 ⟨x5, rfl, hx5, q3⟩
          go_wp2_with fail
          have F3 := Lib.hid (F1.out.went q3)
          refine hK.out _ _ trivial (fun hHeld => ?_)
          clear hK KK
          try simp only [Act.put, List.setIfInBounds_toArray, List.set_cons_zero, List.set_cons_succ]
          refine K.consL 5 rfl (by kernel_rfl) (fun KK hK => ?_)
          go_simp
          have F4 := Lib.hid (F3.out.alloc (.cells #[.int .i64 x5] 3))
          have rn := K.Rd.new w3 #[.int .i64 x5] 3 1 1 rfl
          have hsz4 := F4.out.size
          refine hK.out _ _ trivial (fun hHeld => ?_)
          clear hK KK
          try simp only [Act.put, List.setIfInBounds_toArray, List.set_cons_zero, List.set_cons_succ]
          refine K.consL 6 rfl (by kernel_rfl) (fun KK hK => ?_)
          refine K.stepN (by rfl) (.tmp 16) (.tmp 20) _ (by rfl) (w.heap.size + 1 + 1) _ i0 _ 1 8 Try.underlying22 hi0 hz0 hz1 hz2 rfl (by omega) A xs.length a _ (by rfl) F4.out.row1 (some ⟨w3.heap.size, 0, none⟩) 1 1 #[.int .i64 x5].toList (by rfl) rn (by simp [Value.oneCell']) hxm (by omega) hsz4 ?_
          intro A5 c5 w4 hrow4 hb4 hgr4 hat4
          have own4 := (F4.out.low hb4).1
          refine hK.out _ _ trivial (fun hHeld => ?_)
          clear hK KK
          try simp only [Act.put, List.setIfInBounds_toArray, List.set_cons_zero, List.set_cons_succ]
          refine K.takeL 7 (v := ?_) rfl (by kernel_rfl) (by kernel_rfl) (by kernel_rfl) (fun _ _ _ h => h) (Or.inl ⟨rfl, ?_⟩) (by assumption) ?_
          rotate_left
          · intro w hSw; (try dsimp only at hSw); first | (go_simp; done) | (go_simp; with_reducible rfl)
          simp only [Act.put, List.setIfInBounds_toArray, List.set_cons_zero, List.set_cons_succ]
          refine K.consL 8 rfl (by kernel_rfl) (fun KK hK => ?_)
          obtain ⟨b0, b1, y0, y1, bg⟩ := own4.c2
          go_simp
          clear b0 b1 y0 y1 bg
          refine hK.out _ _ trivial (fun hHeld => ?_)
          clear hK KK
          try simp only [Act.put, List.setIfInBounds_toArray, List.set_cons_zero, List.set_cons_succ]
          refine wpAnyH_done (by kernel_rfl) ?_ _
          have F5 := Lib.hid (F4.out.pushL hrow4 hb4 hgr4 hat4)
          clear F0 F1 F3 F4 hrow4 hb4 hgr4 hat4 own4 rl rn q3 hsz hsz4
          obtain ⟨V5, hV5⟩ : ∃ X, X = w4.setCell ⟨w.heap.size + 1, 0, none⟩ (.slice A5 (xs.length + 1) c5) := ⟨_, rfl⟩
          rw [← hV5] at F5
          try rw [← hV5]
          clear hV5
          have G5 := F5
          clear F5
          go_wp2_with fail
          go_meet
          exact ⟨A5, c5, x5, G5.out⟩
        · skip
          go_simp
          have F1 := Lib.hid (F0.out.alloc (.cells #[.int .i64 (0), .int .i64 (1), .int .i64 (4), .int .i64 (5), .int .i64 (9), .int .i64 (30)] 3))
          have rl := K.Rd.new W5 #[.int .i64 (0), .int .i64 (1), .int .i64 (4), .int .i64 (5), .int .i64 (9), .int .i64 (30)] 3 6 1 rfl
          have hsz := F0.out.size
          refine hK.out _ _ trivial (fun hHeld => ?_)
          clear hK KK
          try simp only [Act.put, List.setIfInBounds_toArray, List.set_cons_zero, List.set_cons_succ]
          refine wpAnyH_ready (rs := [1, 4]) (by kernel_rfl) (by simp) (AllReadyH.cons (by rfl) (fun KK hK => ?_) (AllReadyH.cons (by rfl) (fun KK hK => ?_) AllReadyH.nil))
          · skip
            obtain ⟨b0, b1, y0, y1, bg⟩ := F1.out.box.c2
            go_simp
            clear b0 b1 y0 y1 bg
            refine hK.out _ _ trivial (fun hHeld => ?_)
            clear hK KK
            try simp only [Act.put, List.setIfInBounds_toArray, List.set_cons_zero, List.set_cons_succ]
            refine K.consL 4 rfl (by kernel_rfl) (fun KK hK => ?_)
            go_simp
            refine (Cur.among _ lo g _ (some ⟨W5.heap.size, 0, none⟩) 6 lit5 F1.out.cur (by omega) (by decide) rl (fun e => by simp [K.blk] at e; have := F0.out.glt; omega)).mono ?_
            rintro e w3 ⟨x5, rfl, hx5, q3⟩
            go_wp2_with fail
            have F3 := Lib.hid (F1.out.went q3)
            refine hK.out _ _ trivial (fun hHeld => ?_)
            clear hK KK
            try simp only [Act.put, List.setIfInBounds_toArray, List.set_cons_zero, List.set_cons_succ]
            refine K.consL 5 rfl (by kernel_rfl) (fun KK hK => ?_)
            go_simp
            have F4 := Lib.hid (F3.out.alloc (.cells #[.int .i64 x5] 3))
            have rn := K.Rd.new w3 #[.int .i64 x5] 3 1 1 rfl
            have hsz4 := F4.out.size
            refine hK.out _ _ trivial (fun hHeld => ?_)
            clear hK KK
            try simp only [Act.put, List.setIfInBounds_toArray, List.set_cons_zero, List.set_cons_succ]
            refine K.consL 6 rfl (by kernel_rfl) (fun KK hK => ?_)
            refine K.stepN (by rfl) (.tmp 16) (.tmp 20) _ (by rfl) (w.heap.size + 1 + 1) _ i0 _ 1 8 Try.underlying22 hi0 hz0 hz1 hz2 rfl (by omega) A xs.length a _ (by rfl) F4.out.row1 (some ⟨w3.heap.size, 0, none⟩) 1 1 #[.int .i64 x5].toList (by rfl) rn (by simp [Value.oneCell']) hxm (by omega) hsz4 ?_
            intro A5 c5 w4 hrow4 hb4 hgr4 hat4
            have own4 := (F4.out.low hb4).1
            refine hK.out _ _ trivial (fun hHeld => ?_)
            clear hK KK
            try simp only [Act.put, List.setIfInBounds_toArray, List.set_cons_zero, List.set_cons_succ]
            refine K.takeL 7 (v := ?_) rfl (by kernel_rfl) (by kernel_rfl) (by kernel_rfl) (fun _ _ _ h => h) (Or.inl ⟨rfl, ?_⟩) (by assumption) ?_
            rotate_left
            · intro w hSw; (try dsimp only at hSw); first | (go_simp; done) | (go_simp; with_reducible rfl)
            simp only [Act.put, List.setIfInBounds_toArray, List.set_cons_zero, List.set_cons_succ]
            refine K.consL 8 rfl (by kernel_rfl) (fun KK hK => ?_)
            obtain ⟨b0, b1, y0, y1, bg⟩ := own4.c2
            go_simp
            clear b0 b1 y0 y1 bg
            refine hK.out _ _ trivial (fun hHeld => ?_)
            clear hK KK
            try simp only [Act.put, List.setIfInBounds_toArray, List.set_cons_zero, List.set_cons_succ]
            refine wpAnyH_done (by kernel_rfl) ?_ _
            have F5 := Lib.hid (F4.out.pushL hrow4 hb4 hgr4 hat4)
            clear F0 F1 F3 F4 hrow4 hb4 hgr4 hat4 own4 rl rn q3 hsz hsz4
            obtain ⟨V5, hV5⟩ : ∃ X, X = w4.setCell ⟨w.heap.size + 1, 0, none⟩ (.slice A5 (xs.length + 1) c5) := ⟨_, rfl⟩
            rw [← hV5] at F5
            try rw [← hV5]
            clear hV5
            have G5 := F5
            clear F5
            go_wp2_with fail
            go_meet
            exact ⟨A5, c5, x5, G5.out⟩
          · skip
            go_simp
            refine (Cur.among _ lo g _ (some ⟨W5.heap.size, 0, none⟩) 6 lit5 F1.out.cur (by omega) (by decide) rl (fun e => by simp [K.blk] at e; have := F0.out.glt; omega)).mono ?_
            rintro e w3 ⟨x5, rfl, hx5, q3⟩
            go_wp2_with fail
            have F3 := Lib.hid (F1.out.went q3)
            refine hK.out _ _ trivial (fun hHeld => ?_)
            clear hK KK
            try simp only [Act.put, List.setIfInBounds_toArray, List.set_cons_zero, List.set_cons_succ]
            refine wpAnyH_ready (rs := [1, 5]) (by kernel_rfl) (by simp) (AllReadyH.cons (by rfl) (fun KK hK => ?_) (AllReadyH.cons (by rfl) (fun KK hK => ?_) AllReadyH.nil))
            · skip
              obtain ⟨b0, b1, y0, y1, bg⟩ := F3.out.box.c2
              go_simp
              clear b0 b1 y0 y1 bg
              refine hK.out _ _ trivial (fun hHeld => ?_)
              clear hK KK
              try simp only [Act.put, List.setIfInBounds_toArray, List.set_cons_zero, List.set_cons_succ]
              refine K.consL 5 rfl (by kernel_rfl) (fun KK hK => ?_)
              go_simp
              have F4 := Lib.hid (F3.out.alloc (.cells #[.int .i64 x5] 3))
              have rn := K.Rd.new w3 #[.int .i64 x5] 3 1 1 rfl
              have hsz4 := F4.out.size
              refine hK.out _ _ trivial (fun hHeld => ?_)
              clear hK KK
              try simp only [Act.put, List.setIfInBounds_toArray, List.set_cons_zero, List.set_cons_succ]
              refine K.consL 6 rfl (by kernel_rfl) (fun KK hK => ?_)
              refine K.stepN (by rfl) (.tmp 16) (.tmp 20) _ (by rfl) (w.heap.size + 1 + 1) _ i0 _ 1 8 Try.underlying22 hi0 hz0 hz1 hz2 rfl (by omega) A xs.length a _ (by rfl) F4.out.row1 (some ⟨w3.heap.size, 0, none⟩) 1 1 #[.int .i64 x5].toList (by rfl) rn (by simp [Value.oneCell']) hxm (by omega) hsz4 ?_
              intro A5 c5 w4 hrow4 hb4 hgr4 hat4
              have own4 := (F4.out.low hb4).1
              refine hK.out _ _ trivial (fun hHeld => ?_)
              clear hK KK
              try simp only [Act.put, List.setIfInBounds_toArray, List.set_cons_zero, List.set_cons_succ]
              refine K.takeL 7 (v := ?_) rfl (by kernel_rfl) (by kernel_rfl) (by kernel_rfl) (fun _ _ _ h => h) (Or.inl ⟨rfl, ?_⟩) (by assumption) ?_
              rotate_left
              · intro w hSw; (try dsimp only at hSw); first | (go_simp; done) | (go_simp; with_reducible rfl)
              simp only [Act.put, List.setIfInBounds_toArray, List.set_cons_zero, List.set_cons_succ]
              refine K.consL 8 rfl (by kernel_rfl) (fun KK hK => ?_)
              obtain ⟨b0, b1, y0, y1, bg⟩ := own4.c2
              go_simp
              clear b0 b1 y0 y1 bg
              refine hK.out _ _ trivial (fun hHeld => ?_)
              clear hK KK
              try simp only [Act.put, List.setIfInBounds_toArray, List.set_cons_zero, List.set_cons_succ]
              refine wpAnyH_done (by kernel_rfl) ?_ _
              have F5 := Lib.hid (F4.out.pushL hrow4 hb4 hgr4 hat4)
              clear F0 F1 F3 F4 hrow4 hb4 hgr4 hat4 own4 rl rn q3 hsz hsz4
              obtain ⟨V5, hV5⟩ : ∃ X, X = w4.setCell ⟨w.heap.size + 1, 0, none⟩ (.slice A5 (xs.length + 1) c5) := ⟨_, rfl⟩
              rw [← hV5] at F5
              try rw [← hV5]
              clear hV5
              have G5 := F5
              clear F5
              go_wp2_with fail
              go_meet
              exact ⟨A5, c5, x5, G5.out⟩
            · skip
              go_simp
              have F4 := Lib.hid (F3.out.alloc (.cells #[.int .i64 x5] 3))
              have rn := K.Rd.new w3 #[.int .i64 x5] 3 1 1 rfl
              have hsz4 := F4.out.size
              refine hK.out _ _ trivial (fun hHeld => ?_)
              clear hK KK
              try simp only [Act.put, List.setIfInBounds_toArray, List.set_cons_zero, List.set_cons_succ]
              refine K.consL 1 rfl (by kernel_rfl) (fun KK hK => ?_)
              obtain ⟨b0, b1, y0, y1, bg⟩ := F4.out.box.c2
              go_simp
              clear b0 b1 y0 y1 bg
              refine hK.out _ _ trivial (fun hHeld => ?_)
              clear hK KK
              try simp only [Act.put, List.setIfInBounds_toArray, List.set_cons_zero, List.set_cons_succ]
              refine K.consL 6 rfl (by kernel_rfl) (fun KK hK => ?_)
              refine K.stepN (by rfl) (.tmp 16) (.tmp 20) _ (by rfl) (w.heap.size + 1 + 1) _ i0 _ 1 8 Try.underlying22 hi0 hz0 hz1 hz2 rfl (by omega) A xs.length a _ (by rfl) F4.out.row1 (some ⟨w3.heap.size, 0, none⟩) 1 1 #[.int .i64 x5].toList (by rfl) rn (by simp [Value.oneCell']) hxm (by omega) hsz4 ?_
              intro A5 c5 w4 hrow4 hb4 hgr4 hat4
              have own4 := (F4.out.low hb4).1
              refine hK.out _ _ trivial (fun hHeld => ?_)
              clear hK KK
              try simp only [Act.put, List.setIfInBounds_toArray, List.set_cons_zero, List.set_cons_succ]
              refine K.takeL 7 (v := ?_) rfl (by kernel_rfl) (by kernel_rfl) (by kernel_rfl) (fun _ _ _ h => h) (Or.inl ⟨rfl, ?_⟩) (by assumption) ?_
              rotate_left
              · intro w hSw; (try dsimp only at hSw); first | (go_simp; done) | (go_simp; with_reducible rfl)
              simp only [Act.put, List.setIfInBounds_toArray, List.set_cons_zero, List.set_cons_succ]
              refine K.consL 8 rfl (by kernel_rfl) (fun KK hK => ?_)
              obtain ⟨b0, b1, y0, y1, bg⟩ := own4.c2
              go_simp
              clear b0 b1 y0 y1 bg
              refine hK.out _ _ trivial (fun hHeld => ?_)
              clear hK KK
              try simp only [Act.put, List.setIfInBounds_toArray, List.set_cons_zero, List.set_cons_succ]
              refine wpAnyH_done (by kernel_rfl) ?_ _
              have F5 := Lib.hid (F4.out.pushL hrow4 hb4 hgr4 hat4)
              clear F0 F1 F3 F4 hrow4 hb4 hgr4 hat4 own4 rl rn q3 hsz hsz4
              obtain ⟨V5, hV5⟩ : ∃ X, X = w4.setCell ⟨w.heap.size + 1, 0, none⟩ (.slice A5 (xs.length + 1) c5) := ⟨_, rfl⟩
              rw [← hV5] at F5
              try rw [← hV5]
              clear hV5
              have G5 := F5
              clear F5
              go_wp2_with fail
              go_meet
              exact ⟨A5, c5, x5, G5.out⟩
      obtain ⟨A5, c5, x5, G0⟩ := hcut
      have G5 := Lib.hid G0
      clear G0 HF
      rename World => wq
      go_upto_region 6 with fail
      obtain ⟨W6, hW6⟩ : ∃ X, X = World.drew wq := ⟨_, rfl⟩
      have F0 := Lib.hid (show Bd w W6 lo g (B + 4 * k + 2) A5 c5 (xs ++ [x5]) C c ys by rw [hW6]; exact G5.out.drew)
      refine wp_region_held_drew (S := fun _ => True) (by kernel_rfl) trivial (fun hHeld => ?_)
      rw [← hW6]
      clear hW6 G5
      refine K.takeL 0 (v := ?_) rfl (by kernel_rfl) (by kernel_rfl) (by kernel_rfl) (fun _ _ _ h => h) (Or.inl ⟨rfl, ?_⟩) (by assumption) ?_
      rotate_left
      · intro w hSw; (try dsimp only at hSw); first | (go_simp; done) | (go_simp; with_reducible rfl)
      simp only [Act.put, List.setIfInBounds_toArray, List.set_cons_zero, List.set_cons_succ]
      refine K.takeL 2 (v := ?_) rfl (by kernel_rfl) (by kernel_rfl) (by kernel_rfl) (fun _ _ _ h => h) (Or.inl ⟨rfl, ?_⟩) (by assumption) ?_
      rotate_left
      · intro w hSw; (try dsimp only at hSw); first | (go_simp; done) | (go_simp; with_reducible rfl)
      simp only [Act.put, List.setIfInBounds_toArray, List.set_cons_zero, List.set_cons_succ]
      refine wpAnyH_ready (rs := [1, 3]) (by kernel_rfl) (by simp) (AllReadyH.cons (by rfl) (fun KK hK => ?_) (AllReadyH.cons (by rfl) (fun KK hK => ?_) AllReadyH.nil))
      · skip
        obtain ⟨b0, b1, y0, y1, bg⟩ := F0.out.box.c2
        go_simp
        clear b0 b1 y0 y1 bg
        refine hK.out _ _ trivial (fun hHeld => ?_)
        clear hK KK
        try simp only [Act.put, List.setIfInBounds_toArray, List.set_cons_zero, List.set_cons_succ]
        refine K.consL 3 rfl (by kernel_rfl) (fun KK hK => ?_)
        go_simp
        have F1 := Lib.hid (F0.out.alloc (.cells #[.int .i64 (0), .int .i64 (0), .int .i64 (1), .int .i64 (2), .int .i64 (3), .int .i64 (29)] 3))
        have rl := K.Rd.new W6 #[.int .i64 (0), .int .i64 (0), .int .i64 (1), .int .i64 (2), .int .i64 (3), .int .i64 (29)] 3 6 1 rfl
        have hsz := F0.out.size
        refine hK.out _ _ trivial (fun hHeld => ?_)
        clear hK KK
        try simp only [Act.put, List.setIfInBounds_toArray, List.set_cons_zero, List.set_cons_succ]
        refine K.consL 4 rfl (by kernel_rfl) (fun KK hK => ?_)
        go_simp
        refine (Cur.among _ lo g _ (some ⟨W6.heap.size, 0, none⟩) 6 lit6 F1.out.cur (by omega) (by decide) rl (fun e => by simp [K.blk] at e; have := F0.out.glt; omega)).mono ?_
        rintro e w3 ⟨x6, rfl, hx6, q3⟩
        go_wp2_with fail
        have F3 := Lib.hid (F1.out.went q3)
        refine hK.out _ _ trivial (fun hHeld => ?_)
        clear hK KK
        try simp only [Act.put, List.setIfInBounds_toArray, List.set_cons_zero, List.set_cons_succ]
        refine K.consL 5 rfl (by kernel_rfl) (fun KK hK => ?_)
        go_simp
        have F4 := Lib.hid (F3.out.alloc (.cells #[.int .i64 x6] 3))
        have rn := K.Rd.new w3 #[.int .i64 x6] 3 1 1 rfl
        have hsz4 := F4.out.size
        refine hK.out _ _ trivial (fun hHeld => ?_)
        clear hK KK
        try simp only [Act.put, List.setIfInBounds_toArray, List.set_cons_zero, List.set_cons_succ]
        refine K.consL 6 rfl (by kernel_rfl) (fun KK hK => ?_)
        refine K.stepN (by rfl) (.tmp 24) (.tmp 28) _ (by rfl) (w.heap.size + 1 + 1) _ i0 _ 1 8 Try.underlying22 hi0 hz0 hz1 hz2 rfl (by omega) C ys.length c _ (by rfl) F4.out.row2 (some ⟨w3.heap.size, 0, none⟩) 1 1 #[.int .i64 x6].toList (by rfl) rn (by simp [Value.oneCell']) hym (by omega) hsz4 ?_
        intro A6 c6 w4 hrow4 hb4 hgr4 hat4
        have own4 := (F4.out.low hb4).1
        refine hK.out _ _ trivial (fun hHeld => ?_)
        clear hK KK
        try simp only [Act.put, List.setIfInBounds_toArray, List.set_cons_zero, List.set_cons_succ]
        refine K.takeL 7 (v := ?_) rfl (by kernel_rfl) (by kernel_rfl) (by kernel_rfl) (fun _ _ _ h => h) (Or.inl ⟨rfl, ?_⟩) (by assumption) ?_
        rotate_left
        · intro w hSw; (try dsimp only at hSw); first | (go_simp; done) | (go_simp; with_reducible rfl)
        simp only [Act.put, List.setIfInBounds_toArray, List.set_cons_zero, List.set_cons_succ]
        refine K.consL 8 rfl (by kernel_rfl) (fun KK hK => ?_)
        obtain ⟨b0, b1, y0, y1, bg⟩ := own4.c2
        go_simp
        clear b0 b1 y0 y1 bg
        refine hK.out _ _ trivial (fun hHeld => ?_)
        clear hK KK
        try simp only [Act.put, List.setIfInBounds_toArray, List.set_cons_zero, List.set_cons_succ]
        refine wpAnyH_done (by kernel_rfl) ?_ _
        have F5 := Lib.hid (F4.out.pushR hrow4 hb4 hgr4 hat4)
        clear F0 F1 F3 F4 hrow4 hb4 hgr4 hat4 own4 rl rn q3 hsz hsz4
        obtain ⟨V6, hV6⟩ : ∃ X, X = w4.setCell ⟨w.heap.size + 1, 1, none⟩ (.slice A6 (ys.length + 1) c6) := ⟨_, rfl⟩
        rw [← hV6] at F5
        try rw [← hV6]
        clear hV6
        have G6 := F5
        clear F5
        go_wp2_with fail
        go_roundw
        case rel => exact ⟨k + 1, A5, c5, xs ++ [x5], A6, c6, ys ++ [x6], by omega, by go_num, Lib.hid (by rw [List.length_append, HX.out]; rfl), Lib.hid (by rw [List.length_append, HY.out]; rfl), Lib.hid (by have h := G6.out; have e9 : B + 4 * k + 2 + 2 = B + 4 * (k + 1) := (by omega); rw [e9] at h; exact h)⟩
        case measure => simp [intOf]; omega
      · skip
        go_simp
        have F1 := Lib.hid (F0.out.alloc (.cells #[.int .i64 (0), .int .i64 (0), .int .i64 (1), .int .i64 (2), .int .i64 (3), .int .i64 (29)] 3))
        have rl := K.Rd.new W6 #[.int .i64 (0), .int .i64 (0), .int .i64 (1), .int .i64 (2), .int .i64 (3), .int .i64 (29)] 3 6 1 rfl
        have hsz := F0.out.size
        refine hK.out _ _ trivial (fun hHeld => ?_)
        clear hK KK
        try simp only [Act.put, List.setIfInBounds_toArray, List.set_cons_zero, List.set_cons_succ]
        refine wpAnyH_ready (rs := [1, 4]) (by kernel_rfl) (by simp) (AllReadyH.cons (by rfl) (fun KK hK => ?_) (AllReadyH.cons (by rfl) (fun KK hK => ?_) AllReadyH.nil))
        · skip
          obtain ⟨b0, b1, y0, y1, bg⟩ := F1.out.box.c2
          go_simp
          clear b0 b1 y0 y1 bg
          refine hK.out _ _ trivial (fun hHeld => ?_)
          clear hK KK
          try simp only [Act.put, List.setIfInBounds_toArray, List.set_cons_zero, List.set_cons_succ]
          refine K.consL 4 rfl (by kernel_rfl) (fun KK hK => ?_)
          go_simp
          refine (Cur.among _ lo g _ (some ⟨W6.heap.size, 0, none⟩) 6 lit6 F1.out.cur (by omega) (by decide) rl (fun e => by simp [K.blk] at e; have := F0.out.glt; omega)).mono ?_
          rintro e w3 ⟨x6, rfl, hx6, q3⟩
          go_wp2_with fail
          have F3 := Lib.hid (F1.out.went q3)
          refine hK.out _ _ trivial (fun hHeld => ?_)
          clear hK KK
          try simp only [Act.put, List.setIfInBounds_toArray, List.set_cons_zero, List.set_cons_succ]
          refine K.consL 5 rfl (by kernel_rfl) (fun KK hK => ?_)
          go_simp
          have F4 := Lib.hid (F3.out.alloc (.cells #[.int .i64 x6] 3))
          have rn := K.Rd.new w3 #[.int .i64 x6] 3 1 1 rfl
          have hsz4 := F4.out.size
          refine hK.out _ _ trivial (fun hHeld => ?_)
          clear hK KK
          try simp only [Act.put, List.setIfInBounds_toArray, List.set_cons_zero, List.set_cons_succ]
          refine K.consL 6 rfl (by kernel_rfl) (fun KK hK => ?_)
          refine K.stepN (by rfl) (.tmp 24) (.tmp 28) _ (by rfl) (w.heap.size + 1 + 1) _ i0 _ 1 8 Try.underlying22 hi0 hz0 hz1 hz2 rfl (by omega) C ys.length c _ (by rfl) F4.out.row2 (some ⟨w3.heap.size, 0, none⟩) 1 1 #[.int .i64 x6].toList (by rfl) rn (by simp [Value.oneCell']) hym (by omega) hsz4 ?_
          intro A6 c6 w4 hrow4 hb4 hgr4 hat4
          have own4 := (F4.out.low hb4).1
          refine hK.out _ _ trivial (fun hHeld => ?_)
          clear hK KK
          try simp only [Act.put, List.setIfInBounds_toArray, List.set_cons_zero, List.set_cons_succ]
          refine K.takeL 7 (v := ?_) rfl (by kernel_rfl) (by kernel_rfl) (by kernel_rfl) (fun _ _ _ h => h) (Or.inl ⟨rfl, ?_⟩) (by assumption) ?_
          rotate_left
          · intro w hSw; (try dsimp only at hSw); first | (go_simp; done) | (go_simp; with_reducible rfl)
          simp only [Act.put, List.setIfInBounds_toArray, List.set_cons_zero, List.set_cons_succ]
          refine K.consL 8 rfl (by kernel_rfl) (fun KK hK => ?_)
          obtain ⟨b0, b1, y0, y1, bg⟩ := own4.c2
          go_simp
          clear b0 b1 y0 y1 bg
          refine hK.out _ _ trivial (fun hHeld => ?_)
          clear hK KK
          try simp only [Act.put, List.setIfInBounds_toArray, List.set_cons_zero, List.set_cons_succ]
          refine wpAnyH_done (by kernel_rfl) ?_ _
          have F5 := Lib.hid (F4.out.pushR hrow4 hb4 hgr4 hat4)
          clear F0 F1 F3 F4 hrow4 hb4 hgr4 hat4 own4 rl rn q3 hsz hsz4
          obtain ⟨V6, hV6⟩ : ∃ X, X = w4.setCell ⟨w.heap.size + 1, 1, none⟩ (.slice A6 (ys.length + 1) c6) := ⟨_, rfl⟩
          rw [← hV6] at F5
          try rw [← hV6]
          clear hV6
          have G6 := F5
          clear F5
          go_wp2_with fail
          go_roundw
          case rel => exact ⟨k + 1, A5, c5, xs ++ [x5], A6, c6, ys ++ [x6], by omega, by go_num, Lib.hid (by rw [List.length_append, HX.out]; rfl), Lib.hid (by rw [List.length_append, HY.out]; rfl), Lib.hid (by have h := G6.out; have e9 : B + 4 * k + 2 + 2 = B + 4 * (k + 1) := (by omega); rw [e9] at h; exact h)⟩
          case measure => simp [intOf]; omega
        · skip
          go_simp
          refine (Cur.among _ lo g _ (some ⟨W6.heap.size, 0, none⟩) 6 lit6 F1.out.cur (by omega) (by decide) rl (fun e => by simp [K.blk] at e; have := F0.out.glt; omega)).mono ?_
          rintro e w3 ⟨x6, rfl, hx6, q3⟩
          go_wp2_with fail
          have F3 := Lib.hid (F1.out.went q3)
          refine hK.out _ _ trivial (fun hHeld => ?_)
          clear hK KK
          try simp only [Act.put, List.setIfInBounds_toArray, List.set_cons_zero, List.set_cons_succ]
          refine wpAnyH_ready (rs := [1, 5]) (by kernel_rfl) (by simp) (AllReadyH.cons (by rfl) (fun KK hK => ?_) (AllReadyH.cons (by rfl) (fun KK hK => ?_) AllReadyH.nil))
          · skip
            obtain ⟨b0, b1, y0, y1, bg⟩ := F3.out.box.c2
            go_simp
            clear b0 b1 y0 y1 bg
            refine hK.out _ _ trivial (fun hHeld => ?_)
            clear hK KK
            try simp only [Act.put, List.setIfInBounds_toArray, List.set_cons_zero, List.set_cons_succ]
            refine K.consL 5 rfl (by kernel_rfl) (fun KK hK => ?_)
            go_simp
            have F4 := Lib.hid (F3.out.alloc (.cells #[.int .i64 x6] 3))
            have rn := K.Rd.new w3 #[.int .i64 x6] 3 1 1 rfl
            have hsz4 := F4.out.size
            refine hK.out _ _ trivial (fun hHeld => ?_)
            clear hK KK
            try simp only [Act.put, List.setIfInBounds_toArray, List.set_cons_zero, List.set_cons_succ]
            refine K.consL 6 rfl (by kernel_rfl) (fun KK hK => ?_)
            refine K.stepN (by rfl) (.tmp 24) (.tmp 28) _ (by rfl) (w.heap.size + 1 + 1) _ i0 _ 1 8 Try.underlying22 hi0 hz0 hz1 hz2 rfl (by omega) C ys.length c _ (by rfl) F4.out.row2 (some ⟨w3.heap.size, 0, none⟩) 1 1 #[.int .i64 x6].toList (by rfl) rn (by simp [Value.oneCell']) hym (by omega) hsz4 ?_
            intro A6 c6 w4 hrow4 hb4 hgr4 hat4
            have own4 := (F4.out.low hb4).1
            refine hK.out _ _ trivial (fun hHeld => ?_)
            clear hK KK
            try simp only [Act.put, List.setIfInBounds_toArray, List.set_cons_zero, List.set_cons_succ]
            refine K.takeL 7 (v := ?_) rfl (by kernel_rfl) (by kernel_rfl) (by kernel_rfl) (fun _ _ _ h => h) (Or.inl ⟨rfl, ?_⟩) (by assumption) ?_
            rotate_left
            · intro w hSw; (try dsimp only at hSw); first | (go_simp; done) | (go_simp; with_reducible rfl)
            simp only [Act.put, List.setIfInBounds_toArray, List.set_cons_zero, List.set_cons_succ]
            refine K.consL 8 rfl (by kernel_rfl) (fun KK hK => ?_)
            obtain ⟨b0, b1, y0, y1, bg⟩ := own4.c2
            go_simp
            clear b0 b1 y0 y1 bg
            refine hK.out _ _ trivial (fun hHeld => ?_)
            clear hK KK
            try simp only [Act.put, List.setIfInBounds_toArray, List.set_cons_zero, List.set_cons_succ]
            refine wpAnyH_done (by kernel_rfl) ?_ _
            have F5 := Lib.hid (F4.out.pushR hrow4 hb4 hgr4 hat4)
            clear F0 F1 F3 F4 hrow4 hb4 hgr4 hat4 own4 rl rn q3 hsz hsz4
            obtain ⟨V6, hV6⟩ : ∃ X, X = w4.setCell ⟨w.heap.size + 1, 1, none⟩ (.slice A6 (ys.length + 1) c6) := ⟨_, rfl⟩
            rw [← hV6] at F5
            try rw [← hV6]
            clear hV6
            have G6 := F5
            clear F5
            go_wp2_with fail
            go_roundw
            case rel => exact ⟨k + 1, A5, c5, xs ++ [x5], A6, c6, ys ++ [x6], by omega, by go_num, Lib.hid (by rw [List.length_append, HX.out]; rfl), Lib.hid (by rw [List.length_append, HY.out]; rfl), Lib.hid (by have h := G6.out; have e9 : B + 4 * k + 2 + 2 = B + 4 * (k + 1) := (by omega); rw [e9] at h; exact h)⟩
            case measure => simp [intOf]; omega
          · skip
            go_simp
            have F4 := Lib.hid (F3.out.alloc (.cells #[.int .i64 x6] 3))
            have rn := K.Rd.new w3 #[.int .i64 x6] 3 1 1 rfl
            have hsz4 := F4.out.size
            refine hK.out _ _ trivial (fun hHeld => ?_)
            clear hK KK
            try simp only [Act.put, List.setIfInBounds_toArray, List.set_cons_zero, List.set_cons_succ]
            refine K.consL 1 rfl (by kernel_rfl) (fun KK hK => ?_)
            obtain ⟨b0, b1, y0, y1, bg⟩ := F4.out.box.c2
            go_simp
            clear b0 b1 y0 y1 bg
            refine hK.out _ _ trivial (fun hHeld => ?_)
            clear hK KK
            try simp only [Act.put, List.setIfInBounds_toArray, List.set_cons_zero, List.set_cons_succ]
            refine K.consL 6 rfl (by kernel_rfl) (fun KK hK => ?_)
            refine K.stepN (by rfl) (.tmp 24) (.tmp 28) _ (by rfl) (w.heap.size + 1 + 1) _ i0 _ 1 8 Try.underlying22 hi0 hz0 hz1 hz2 rfl (by omega) C ys.length c _ (by rfl) F4.out.row2 (some ⟨w3.heap.size, 0, none⟩) 1 1 #[.int .i64 x6].toList (by rfl) rn (by simp [Value.oneCell']) hym (by omega) hsz4 ?_
            intro A6 c6 w4 hrow4 hb4 hgr4 hat4
            have own4 := (F4.out.low hb4).1
            refine hK.out _ _ trivial (fun hHeld => ?_)
            clear hK KK
            try simp only [Act.put, List.setIfInBounds_toArray, List.set_cons_zero, List.set_cons_succ]
            refine K.takeL 7 (v := ?_) rfl (by kernel_rfl) (by kernel_rfl) (by kernel_rfl) (fun _ _ _ h => h) (Or.inl ⟨rfl, ?_⟩) (by assumption) ?_
            rotate_left
            · intro w hSw; (try dsimp only at hSw); first | (go_simp; done) | (go_simp; with_reducible rfl)
            simp only [Act.put, List.setIfInBounds_toArray, List.set_cons_zero, List.set_cons_succ]
            refine K.consL 8 rfl (by kernel_rfl) (fun KK hK => ?_)
            obtain ⟨b0, b1, y0, y1, bg⟩ := own4.c2
            go_simp
            clear b0 b1 y0 y1 bg
            refine hK.out _ _ trivial (fun hHeld => ?_)
            clear hK KK
            try simp only [Act.put, List.setIfInBounds_toArray, List.set_cons_zero, List.set_cons_succ]
            refine wpAnyH_done (by kernel_rfl) ?_ _
            have F5 := Lib.hid (F4.out.pushR hrow4 hb4 hgr4 hat4)
            clear F0 F1 F3 F4 hrow4 hb4 hgr4 hat4 own4 rl rn q3 hsz hsz4
            obtain ⟨V6, hV6⟩ : ∃ X, X = w4.setCell ⟨w.heap.size + 1, 1, none⟩ (.slice A6 (ys.length + 1) c6) := ⟨_, rfl⟩
            rw [← hV6] at F5
            try rw [← hV6]
            clear hV6
            have G6 := F5
            clear F5
            go_wp2_with fail
            go_roundw
            case rel => exact ⟨k + 1, A5, c5, xs ++ [x5], A6, c6, ys ++ [x6], by omega, by go_num, Lib.hid (by rw [List.length_append, HX.out]; rfl), Lib.hid (by rw [List.length_append, HY.out]; rfl), Lib.hid (by have h := G6.out; have e9 : B + 4 * k + 2 + 2 = B + 4 * (k + 1) := (by omega); rw [e9] at h; exact h)⟩
            case measure => simp [intOf]; omega
    · obtain rfl : k = n := by omega
      clear hlt hi0 hz0 hz1 hz2
      go_wp2_with fail
      refine (Cur.one _ lo g _ 3 HF.out.cur (by omega)).mono ?_
      rintro e w1 ⟨b, rfl, q1⟩
      have H1 := Lib.hid (HF.out.went q1)
      clear q1 HF
      go_upto_if 32 with fail
      go_cut [] (fun wx => ∃ (xs2 ys2 : List Int) (A2 : Option Addr) (a2 : Nat) (C2 : Option Addr) (c2 : Nat), xs2.length = k ∧ ys2.length = k ∧ Bd w wx lo g (B + 4 * k + 2) A2 a2 xs2 C2 c2 ys2)
      case first =>
        cases b with
        | false =>
          go_wp2_with fail
          go_meet
          exact ⟨xs, ys, A, a, C, c, HX.out, HY.out, H1.out⟩
        | true =>
          go_wp2_with fail
          go_loopw [7] (fun i wr => ∃ (m : Nat) (xs2 ys2 : List Int) (A2 : Option Addr) (a2 : Nat) (C2 : Option Addr) (c2 : Nat), m ≤ k ∧ i = .int .i64 (m : Int) ∧ Hid (xs2.length = k) ∧ Hid (ys2.length = k) ∧ Hid (Bd w wr lo g (B + 4 * k + 2) A2 a2 xs2 C2 c2 ys2)) (fun i _ => k - (intOf i).toNat)
          case atStart => exact ⟨0, xs, ys, A, a, C, c, Nat.zero_le _, rfl, HX, HY, H1⟩
          case round =>
            clear HX HY H1
            obtain ⟨m, xs2, ys2, A2, a2, C2, c2, hm, rfl, HX, HY, HF⟩ := hrel
            by_cases hlt : m < k
            · have hm1 : (m : Int) < (k : Int) := by omega
              have hx1 : m < xs2.length := by rw [HX.out]; exact hlt
              have hy1 : m < ys2.length := by rw [HY.out]; exact hlt
              have hx2 : (m : Int) < (xs2.length : Int) := by omega
              have hy2 : (m : Int) < (ys2.length : Int) := by omega
              have hm2 : (0 : Int) ≤ (m : Int) := by omega
              go_upto_region 11 with fail
              go_cut [] (fun wx => ∃ xs3 : List Int, xs3.length = k ∧ Bd w wx lo g (B + 4 * k + 2) A2 a2 xs3 C2 c2 ys2)
              case first =>
                go_upto_region 11 with fail
                obtain ⟨W11, hW11⟩ : ∃ X, X = World.drew wr := ⟨_, rfl⟩
                have F0 := Lib.hid (show Bd w W11 lo g (B + 4 * k + 2) A2 a2 xs2 C2 c2 ys2 by rw [hW11]; exact HF.out.drew)
                obtain ⟨qa, eA, hql, hqa, cA, fA⟩ := F0.out.row1.int hx1
                subst eA
                obtain ⟨b0, b1, y0, y1, bg⟩ := F0.out.box.c2
                refine wp_region_held_drew (S := fun w' => w'.cell? ⟨w.heap.size + 1, 0, none⟩ = some (.slice (some ⟨qa, 0, none⟩) xs2.length a2)) (by kernel_rfl) (by rw [← hW11]; exact b0) (fun hHeld => ?_)
                rw [← hW11] at hHeld ⊢
                clear hW11 HF
                refine K.takeL 0 (v := ?_) rfl (by kernel_rfl) (by kernel_rfl) (by kernel_rfl) (fun _ _ _ h => h) (Or.inl ⟨rfl, ?_⟩) (by assumption) ?_
                rotate_left
                · intro w hSw; (try dsimp only at hSw); first | (go_simp; done) | (go_simp; with_reducible rfl)
                simp only [Act.put, List.setIfInBounds_toArray, List.set_cons_zero, List.set_cons_succ]
                refine K.takeL 1 (v := ?_) rfl (by kernel_rfl) (by kernel_rfl) (by kernel_rfl) (fun _ _ _ h => h) (Or.inl ⟨rfl, ?_⟩) (by assumption) ?_
                rotate_left
                · intro w hSw; (try dsimp only at hSw); first | (go_simp; done) | (go_simp; with_reducible rfl)
                simp only [Act.put, List.setIfInBounds_toArray, List.set_cons_zero, List.set_cons_succ]
                refine K.takeL 2 (v := ?_) rfl (by kernel_rfl) (by kernel_rfl) (by kernel_rfl) (fun _ _ _ h => h) (Or.inl ⟨rfl, ?_⟩) (by assumption) ?_
                rotate_left
                · intro w hSw; (try dsimp only at hSw); first | (go_simp; done) | (go_simp; with_reducible rfl)
                simp only [Act.put, List.setIfInBounds_toArray, List.set_cons_zero, List.set_cons_succ]
                refine K.takeL 3 (v := ?_) rfl (by kernel_rfl) (by kernel_rfl) (by kernel_rfl) (fun _ _ _ h => h) (Or.inl ⟨rfl, ?_⟩) (by assumption) ?_
                rotate_left
                · intro w hSw; (try dsimp only at hSw); first | (go_simp; done) | (go_simp; with_reducible rfl)
                simp only [Act.put, List.setIfInBounds_toArray, List.set_cons_zero, List.set_cons_succ]
                refine K.takeL 4 (v := ?_) rfl (by kernel_rfl) (by kernel_rfl) (by kernel_rfl) (fun _ _ _ h => h) (Or.inl ⟨rfl, ?_⟩) (by assumption) ?_
                rotate_left
                · intro w hSw; (try dsimp only at hSw); first | (go_simp; done) | (go_simp; with_reducible rfl)
                simp only [Act.put, List.setIfInBounds_toArray, List.set_cons_zero, List.set_cons_succ]
                refine K.takeL 5 (v := ?_) rfl (by kernel_rfl) (by kernel_rfl) (by kernel_rfl) (fun _ _ _ h => h) (Or.inl ⟨rfl, ?_⟩) (by assumption) ?_
                rotate_left
                · intro w hSw; (try dsimp only at hSw); first | (go_simp; done) | (go_simp; with_reducible rfl)
                simp only [Act.put, List.setIfInBounds_toArray, List.set_cons_zero, List.set_cons_succ]
                refine K.takeL 6 (v := ?_) rfl (by kernel_rfl) (by kernel_rfl) (by kernel_rfl) (fun _ _ _ h => h) (Or.inl ⟨rfl, ?_⟩) (by assumption) ?_
                rotate_left
                · intro w hSw; (try dsimp only at hSw); first | (go_simp; done) | (go_simp; with_reducible rfl)
                simp only [Act.put, List.setIfInBounds_toArray, List.set_cons_zero, List.set_cons_succ]
                refine K.consL 7 rfl (by kernel_rfl) (fun KK hK => ?_)
                go_simp
                refine hK.out _ _ b0 (fun hHeld => ?_)
                clear hK KK
                try simp only [Act.put, List.setIfInBounds_toArray, List.set_cons_zero, List.set_cons_succ]
                refine K.takeL 8 (v := ?_) rfl (by kernel_rfl) (by kernel_rfl) (by kernel_rfl) (fun _ _ _ h => h) (Or.inl ⟨rfl, ?_⟩) (by assumption) ?_
                rotate_left
                · intro w hSw; (try dsimp only at hSw); first | (go_simp; done) | (go_simp; with_reducible rfl)
                simp only [Act.put, List.setIfInBounds_toArray, List.set_cons_zero, List.set_cons_succ]
                refine K.takeL 9 (v := ?_) rfl (by kernel_rfl) (by kernel_rfl) (by kernel_rfl) (fun _ _ _ h => h) (Or.inl ⟨rfl, ?_⟩) (by assumption) ?_
                rotate_left
                · intro w hSw; (try dsimp only at hSw); first | (go_simp; done) | (go_simp; with_reducible rfl)
                simp only [Act.put, List.setIfInBounds_toArray, List.set_cons_zero, List.set_cons_succ]
                refine K.consL 10 rfl (by kernel_rfl) (fun KK hK => ?_)
                go_simp
                refine hK.out _ _ ((F0.out.box.setOther (p := ⟨qa, m, none⟩) (by simp only; omega) _).c2.1) (fun hHeld => ?_)
                clear hK KK
                try simp only [Act.put, List.setIfInBounds_toArray, List.set_cons_zero, List.set_cons_succ]
                refine wpAnyH_done (by kernel_rfl) ?_ _
                go_wp2_with fail
                go_meet
                exact ⟨_, by rw [List.length_set]; exact HX.out, F0.out.setL _⟩
              obtain ⟨xs3, hx3, G0⟩ := hcut
              have HX3 := Lib.hid hx3
              have G5 := Lib.hid G0
              clear G0 HF hx3 hx2
              rename World => wq
              go_upto_region 12 with fail
              obtain ⟨W12, hW12⟩ : ∃ X, X = World.drew wq := ⟨_, rfl⟩
              have F0 := Lib.hid (show Bd w W12 lo g (B + 4 * k + 2) A2 a2 xs3 C2 c2 ys2 by rw [hW12]; exact G5.out.drew)
              obtain ⟨qa, eA, hql, hqa, cA, fA⟩ := F0.out.row2.int hy1
              subst eA
              obtain ⟨b0, b1, y0, y1, bg⟩ := F0.out.box.c2
              refine wp_region_held_drew (S := fun w' => w'.cell? ⟨w.heap.size + 1, 1, none⟩ = some (.slice (some ⟨qa, 0, none⟩) ys2.length c2)) (by kernel_rfl) (by rw [← hW12]; exact b1) (fun hHeld => ?_)
              rw [← hW12] at hHeld ⊢
              clear hW12 G5
              refine K.takeL 0 (v := ?_) rfl (by kernel_rfl) (by kernel_rfl) (by kernel_rfl) (fun _ _ _ h => h) (Or.inl ⟨rfl, ?_⟩) (by assumption) ?_
              rotate_left
              · intro w hSw; (try dsimp only at hSw); first | (go_simp; done) | (go_simp; with_reducible rfl)
              simp only [Act.put, List.setIfInBounds_toArray, List.set_cons_zero, List.set_cons_succ]
              refine K.takeL 1 (v := ?_) rfl (by kernel_rfl) (by kernel_rfl) (by kernel_rfl) (fun _ _ _ h => h) (Or.inl ⟨rfl, ?_⟩) (by assumption) ?_
              rotate_left
              · intro w hSw; (try dsimp only at hSw); first | (go_simp; done) | (go_simp; with_reducible rfl)
              simp only [Act.put, List.setIfInBounds_toArray, List.set_cons_zero, List.set_cons_succ]
              refine K.takeL 2 (v := ?_) rfl (by kernel_rfl) (by kernel_rfl) (by kernel_rfl) (fun _ _ _ h => h) (Or.inl ⟨rfl, ?_⟩) (by assumption) ?_
              rotate_left
              · intro w hSw; (try dsimp only at hSw); first | (go_simp; done) | (go_simp; with_reducible rfl)
              simp only [Act.put, List.setIfInBounds_toArray, List.set_cons_zero, List.set_cons_succ]
              refine K.takeL 3 (v := ?_) rfl (by kernel_rfl) (by kernel_rfl) (by kernel_rfl) (fun _ _ _ h => h) (Or.inl ⟨rfl, ?_⟩) (by assumption) ?_
              rotate_left
              · intro w hSw; (try dsimp only at hSw); first | (go_simp; done) | (go_simp; with_reducible rfl)
              simp only [Act.put, List.setIfInBounds_toArray, List.set_cons_zero, List.set_cons_succ]
              refine K.takeL 4 (v := ?_) rfl (by kernel_rfl) (by kernel_rfl) (by kernel_rfl) (fun _ _ _ h => h) (Or.inl ⟨rfl, ?_⟩) (by assumption) ?_
              rotate_left
              · intro w hSw; (try dsimp only at hSw); first | (go_simp; done) | (go_simp; with_reducible rfl)
              simp only [Act.put, List.setIfInBounds_toArray, List.set_cons_zero, List.set_cons_succ]
              refine K.takeL 5 (v := ?_) rfl (by kernel_rfl) (by kernel_rfl) (by kernel_rfl) (fun _ _ _ h => h) (Or.inl ⟨rfl, ?_⟩) (by assumption) ?_
              rotate_left
              · intro w hSw; (try dsimp only at hSw); first | (go_simp; done) | (go_simp; with_reducible rfl)
              simp only [Act.put, List.setIfInBounds_toArray, List.set_cons_zero, List.set_cons_succ]
              refine K.takeL 6 (v := ?_) rfl (by kernel_rfl) (by kernel_rfl) (by kernel_rfl) (fun _ _ _ h => h) (Or.inl ⟨rfl, ?_⟩) (by assumption) ?_
              rotate_left
              · intro w hSw; (try dsimp only at hSw); first | (go_simp; done) | (go_simp; with_reducible rfl)
              simp only [Act.put, List.setIfInBounds_toArray, List.set_cons_zero, List.set_cons_succ]
              refine K.consL 7 rfl (by kernel_rfl) (fun KK hK => ?_)
              go_simp
              refine hK.out _ _ b1 (fun hHeld => ?_)
              clear hK KK
              try simp only [Act.put, List.setIfInBounds_toArray, List.set_cons_zero, List.set_cons_succ]
              refine K.takeL 8 (v := ?_) rfl (by kernel_rfl) (by kernel_rfl) (by kernel_rfl) (fun _ _ _ h => h) (Or.inl ⟨rfl, ?_⟩) (by assumption) ?_
              rotate_left
              · intro w hSw; (try dsimp only at hSw); first | (go_simp; done) | (go_simp; with_reducible rfl)
              simp only [Act.put, List.setIfInBounds_toArray, List.set_cons_zero, List.set_cons_succ]
              refine K.takeL 9 (v := ?_) rfl (by kernel_rfl) (by kernel_rfl) (by kernel_rfl) (fun _ _ _ h => h) (Or.inl ⟨rfl, ?_⟩) (by assumption) ?_
              rotate_left
              · intro w hSw; (try dsimp only at hSw); first | (go_simp; done) | (go_simp; with_reducible rfl)
              simp only [Act.put, List.setIfInBounds_toArray, List.set_cons_zero, List.set_cons_succ]
              refine K.consL 10 rfl (by kernel_rfl) (fun KK hK => ?_)
              go_simp
              refine hK.out _ _ ((F0.out.box.setOther (p := ⟨qa, m, none⟩) (by simp only; omega) _).c2.2.1) (fun hHeld => ?_)
              clear hK KK
              try simp only [Act.put, List.setIfInBounds_toArray, List.set_cons_zero, List.set_cons_succ]
              refine wpAnyH_done (by kernel_rfl) ?_ _
              go_wp2_with fail
              go_roundw
              case rel => exact ⟨m + 1, xs3, ys2.set m _, A2, a2, _, c2, by omega, by go_num, HX3, Lib.hid (by rw [List.length_set]; exact HY.out), Lib.hid (F0.out.setR _)⟩
              case measure => simp [intOf]; omega
            · obtain rfl : m = k := by omega
              go_wp2_with fail
              go_meet
              exact ⟨xs2, ys2, A2, a2, C2, c2, HX.out, HY.out, HF.out⟩
      obtain ⟨xs2, ys2, A2, a2, C2, c2, hx, hy, G0⟩ := hcut
      rename World => wq
      have G1 := Lib.hid G0
      clear G0 H1 HX HY
      obtain ⟨b0, b1, y0, y1, bg⟩ := G1.out.box.c2
      have hk1 : 1 ≤ xs2.length := by omega
      have hx6 : xs2.length ≤ 6 := by omega
      have hy6 : ys2.length ≤ 6 := by omega
      have HXY := Lib.hid (show xs2.length = ys2.length by omega)
      clear hx hy
      go_wp2_with fail
      refine (Cur.pick _ lo g _ xs2.length G1.out.cur (by omega)).mono ?_
      rintro e w2 ⟨x, rfl, ⟨x0, x1⟩, q2⟩
      obtain ⟨p, rfl⟩ := Int.eq_ofNat_of_zero_le x0
      have hp : p < xs2.length := by omega
      have hp2 : p < ys2.length := by rw [← HXY.out]; exact hp
      have hp3 : (p : Int) < (xs2.length : Int) := by omega
      have hp4 : (p : Int) < (ys2.length : Int) := by omega
      have hp5 : (p : Int) ≤ (ys2.length : Int) := by omega
      have hp0 : (0 : Int) ≤ (p : Int) := by omega
      have G2 := Lib.hid (G1.out.went q2)
      clear b0 b1 y0 y1 bg q2 G1 x0 x1
      go_wp2_with fail
      refine (Cur.pick _ lo g _ 60 G2.out.cur (by omega)).mono ?_
      rintro e w3 ⟨y, rfl, ⟨z0, z1⟩, q3⟩
      have G3 := Lib.hid ((G2.out.went q3).more (Bq' := B + 4 * k + 2 + 2 + 2 + 2) (by omega))
      clear q3 G2
      obtain ⟨b0, b1, y0, y1, bg⟩ := G3.out.box.c2
      obtain ⟨r0, r1, f0, f1, rg⟩ := G3.out.res.c2
      by_cases y0c : y = 0
      · skip
        have t0 : (y == 0) = true := by rw [beq_iff_eq]; omega
        clear z0 z1
        clear b0 b1 y0 y1 bg
        clear r0 r1 f0 f1 rg
        go_upto_region 16 with fail
        obtain ⟨W16, hW16⟩ : ∃ X, X = World.drew w3 := ⟨_, rfl⟩
        have F0 := Lib.hid (show Bd w W16 lo g (B + 4 * k + 2 + 2 + 2 + 2) A2 a2 xs2 C2 c2 ys2 by rw [hW16]; exact G3.out.drew)
        obtain ⟨qa, eA, hql, _, _, _⟩ := F0.out.row1.int hp
        subst eA
        obtain ⟨b0, b1, y0, y1, bg⟩ := F0.out.box.c2
        refine wp_region_held_drew (S := fun w' => w'.cell? ⟨w.heap.size + 1, 0, none⟩ = some (.slice (some ⟨qa, 0, none⟩) xs2.length a2)) (by kernel_rfl) (by rw [← hW16]; exact b0) (fun hHeld => ?_)
        rw [← hW16] at hHeld ⊢
        clear hW16 G3
        refine K.takeL 0 (v := ?_) rfl (by kernel_rfl) (by kernel_rfl) (by kernel_rfl) (fun _ _ _ h => h) (Or.inl ⟨rfl, ?_⟩) (by assumption) ?_
        rotate_left
        · intro w hSw; (try dsimp only at hSw); first | (go_simp; done) | (go_simp; with_reducible rfl)
        simp only [Act.put, List.setIfInBounds_toArray, List.set_cons_zero, List.set_cons_succ]
        refine K.takeL 1 (v := ?_) rfl (by kernel_rfl) (by kernel_rfl) (by kernel_rfl) (fun _ _ _ h => h) (Or.inl ⟨rfl, ?_⟩) (by assumption) ?_
        rotate_left
        · intro w hSw; (try dsimp only at hSw); first | (go_simp; done) | (go_simp; with_reducible rfl)
        simp only [Act.put, List.setIfInBounds_toArray, List.set_cons_zero, List.set_cons_succ]
        refine K.takeL 2 (v := ?_) rfl (by kernel_rfl) (by kernel_rfl) (by kernel_rfl) (fun _ _ _ h => h) (Or.inl ⟨rfl, ?_⟩) (by assumption) ?_
        rotate_left
        · intro w hSw; (try dsimp only at hSw); first | (go_simp; done) | (go_simp; with_reducible rfl)
        simp only [Act.put, List.setIfInBounds_toArray, List.set_cons_zero, List.set_cons_succ]
        refine K.takeL 3 (v := ?_) rfl (by kernel_rfl) (by kernel_rfl) (by kernel_rfl) (fun _ _ _ h => h) (Or.inl ⟨rfl, ?_⟩) (by assumption) ?_
        rotate_left
        · intro w hSw; (try dsimp only at hSw); first | (go_simp; done) | (go_simp; with_reducible rfl)
        simp only [Act.put, List.setIfInBounds_toArray, List.set_cons_zero, List.set_cons_succ]
        refine K.consL 4 rfl (by kernel_rfl) (fun KK hK => ?_)
        go_simp
        have F1 := Lib.hid (F0.out.alloc (.cells #[.int .i64 (-1), .int .i64 31] 3))
        have rl := K.Rd.new W16 #[.int .i64 (-1), .int .i64 31] 3 2 1 rfl
        refine hK.out _ _ F1.out.box.c2.1 (fun hHeld => ?_)
        clear hK KK
        try simp only [Act.put, List.setIfInBounds_toArray, List.set_cons_zero, List.set_cons_succ]
        refine K.consL 5 rfl (by kernel_rfl) (fun KK hK => ?_)
        clear b0 b1 y0 y1 bg
        go_simp
        refine (Cur.among _ lo g _ (some ⟨W16.heap.size, 0, none⟩) 2 lit16 F1.out.cur (by omega) (by decide) rl (fun e => by simp [K.blk] at e; have := F0.out.glt; have := F0.out.size; omega)).mono ?_
        rintro e w4 ⟨x, rfl, hx, q4⟩
        go_wp2_with fail
        have F3 := Lib.hid (F1.out.went q4)
        obtain ⟨qb, eB, _, hqb, cA, fA⟩ := F3.out.row1.int hp
        injection eB with eB
        injection eB with eB
        subst eB
        refine hK.out _ _ F3.out.box.c2.1 (fun hHeld => ?_)
        clear hK KK
        try simp only [Act.put, List.setIfInBounds_toArray, List.set_cons_zero, List.set_cons_succ]
        refine K.takeL 6 (v := ?_) rfl (by kernel_rfl) (by kernel_rfl) (by kernel_rfl) (fun _ _ _ h => h) (Or.inl ⟨rfl, ?_⟩) (by assumption) ?_
        rotate_left
        · intro w hSw; (try dsimp only at hSw); first | (go_simp; done) | (go_simp; with_reducible rfl)
        simp only [Act.put, List.setIfInBounds_toArray, List.set_cons_zero, List.set_cons_succ]
        refine K.consL 7 rfl (by kernel_rfl) (fun KK hK => ?_)
        go_simp
        refine hK.out _ _ ((F3.out.box.setOther (p := ⟨qa, p, none⟩) (by simp only; omega) _).c2.1) (fun hHeld => ?_)
        clear hK KK
        try simp only [Act.put, List.setIfInBounds_toArray, List.set_cons_zero, List.set_cons_succ]
        refine wpAnyH_done (by kernel_rfl) ?_ _
        have F5 := Lib.hid (F3.out.setL (k := p) x)
        have hl5 : (xs2.set p x).length = xs2.length := List.length_set
        clear F0 F1 F3 rl q4 cA fA hqb
        obtain ⟨V5, hV5⟩ : ∃ X, X = w4.setCell ⟨qa, p, none⟩ (.int .i64 x) := ⟨_, rfl⟩
        rw [← hV5] at F5
        try rw [← hV5]
        clear hV5
        generalize xs2.set p x = zs at *
        have hl5a : zs.length ≤ xs2.length := by omega
        clear hl5
        obtain ⟨b0, b1, y0, y1, bg⟩ := F5.out.box.c2
        obtain ⟨r0, r1, f0, f1, rg⟩ := F5.out.res.c2
        have hfin := Lib.hid (F5.out.fin (B0 := B) (n := 40) (by omega) (.slice (some ⟨qa, 0, none⟩) zs.length a2) (.slice C2 ys2.length c2))
        go_wp2_with fail
        exact bodyPost_ret (v := .agg #[.slice (some ⟨qa, 0, none⟩) zs.length a2, .slice C2 ys2.length c2]) (by simp [results, Try.results83, go_sem, *]) rfl ⟨(some ⟨qa, 0, none⟩), a2, zs, C2, c2, ys2, rfl, by omega, by omega, hfin.out.1, hfin.out.2.1, hfin.out.2.2.1, hfin.out.2.2.2.1, hfin.out.2.2.2.2⟩
      by_cases y1c : y = 1
      · skip
        have t0 : (y == 0) = false := by rw [beq_eq_false_iff_ne]; omega
        have t1 : (y == 1) = true := by rw [beq_iff_eq]; omega
        clear z0 z1
        clear b0 b1 y0 y1 bg
        clear r0 r1 f0 f1 rg
        go_upto_region 18 with fail
        obtain ⟨W18, hW18⟩ : ∃ X, X = World.drew w3 := ⟨_, rfl⟩
        have F0 := Lib.hid (show Bd w W18 lo g (B + 4 * k + 2 + 2 + 2 + 2) A2 a2 xs2 C2 c2 ys2 by rw [hW18]; exact G3.out.drew)
        obtain ⟨qa, eA, hql, _, _, _⟩ := F0.out.row2.int hp2
        subst eA
        obtain ⟨b0, b1, y0, y1, bg⟩ := F0.out.box.c2
        refine wp_region_held_drew (S := fun w' => w'.cell? ⟨w.heap.size + 1, 1, none⟩ = some (.slice (some ⟨qa, 0, none⟩) ys2.length c2)) (by kernel_rfl) (by rw [← hW18]; exact b1) (fun hHeld => ?_)
        rw [← hW18] at hHeld ⊢
        clear hW18 G3
        refine K.takeL 0 (v := ?_) rfl (by kernel_rfl) (by kernel_rfl) (by kernel_rfl) (fun _ _ _ h => h) (Or.inl ⟨rfl, ?_⟩) (by assumption) ?_
        rotate_left
        · intro w hSw; (try dsimp only at hSw); first | (go_simp; done) | (go_simp; with_reducible rfl)
        simp only [Act.put, List.setIfInBounds_toArray, List.set_cons_zero, List.set_cons_succ]
        refine K.takeL 1 (v := ?_) rfl (by kernel_rfl) (by kernel_rfl) (by kernel_rfl) (fun _ _ _ h => h) (Or.inl ⟨rfl, ?_⟩) (by assumption) ?_
        rotate_left
        · intro w hSw; (try dsimp only at hSw); first | (go_simp; done) | (go_simp; with_reducible rfl)
        simp only [Act.put, List.setIfInBounds_toArray, List.set_cons_zero, List.set_cons_succ]
        refine K.takeL 2 (v := ?_) rfl (by kernel_rfl) (by kernel_rfl) (by kernel_rfl) (fun _ _ _ h => h) (Or.inl ⟨rfl, ?_⟩) (by assumption) ?_
        rotate_left
        · intro w hSw; (try dsimp only at hSw); first | (go_simp; done) | (go_simp; with_reducible rfl)
        simp only [Act.put, List.setIfInBounds_toArray, List.set_cons_zero, List.set_cons_succ]
        refine K.takeL 3 (v := ?_) rfl (by kernel_rfl) (by kernel_rfl) (by kernel_rfl) (fun _ _ _ h => h) (Or.inl ⟨rfl, ?_⟩) (by assumption) ?_
        rotate_left
        · intro w hSw; (try dsimp only at hSw); first | (go_simp; done) | (go_simp; with_reducible rfl)
        simp only [Act.put, List.setIfInBounds_toArray, List.set_cons_zero, List.set_cons_succ]
        refine K.consL 4 rfl (by kernel_rfl) (fun KK hK => ?_)
        go_simp
        have F1 := Lib.hid (F0.out.alloc (.cells #[.int .i64 (-1), .int .i64 31] 3))
        have rl := K.Rd.new W18 #[.int .i64 (-1), .int .i64 31] 3 2 1 rfl
        refine hK.out _ _ F1.out.box.c2.2.1 (fun hHeld => ?_)
        clear hK KK
        try simp only [Act.put, List.setIfInBounds_toArray, List.set_cons_zero, List.set_cons_succ]
        refine K.consL 5 rfl (by kernel_rfl) (fun KK hK => ?_)
        clear b0 b1 y0 y1 bg
        go_simp
        refine (Cur.among _ lo g _ (some ⟨W18.heap.size, 0, none⟩) 2 lit18 F1.out.cur (by omega) (by decide) rl (fun e => by simp [K.blk] at e; have := F0.out.glt; have := F0.out.size; omega)).mono ?_
        rintro e w4 ⟨x, rfl, hx, q4⟩
        go_wp2_with fail
        have F3 := Lib.hid (F1.out.went q4)
        obtain ⟨qb, eB, _, hqb, cA, fA⟩ := F3.out.row2.int hp2
        injection eB with eB
        injection eB with eB
        subst eB
        refine hK.out _ _ F3.out.box.c2.2.1 (fun hHeld => ?_)
        clear hK KK
        try simp only [Act.put, List.setIfInBounds_toArray, List.set_cons_zero, List.set_cons_succ]
        refine K.takeL 6 (v := ?_) rfl (by kernel_rfl) (by kernel_rfl) (by kernel_rfl) (fun _ _ _ h => h) (Or.inl ⟨rfl, ?_⟩) (by assumption) ?_
        rotate_left
        · intro w hSw; (try dsimp only at hSw); first | (go_simp; done) | (go_simp; with_reducible rfl)
        simp only [Act.put, List.setIfInBounds_toArray, List.set_cons_zero, List.set_cons_succ]
        refine K.consL 7 rfl (by kernel_rfl) (fun KK hK => ?_)
        go_simp
        refine hK.out _ _ ((F3.out.box.setOther (p := ⟨qa, p, none⟩) (by simp only; omega) _).c2.2.1) (fun hHeld => ?_)
        clear hK KK
        try simp only [Act.put, List.setIfInBounds_toArray, List.set_cons_zero, List.set_cons_succ]
        refine wpAnyH_done (by kernel_rfl) ?_ _
        have F5 := Lib.hid (F3.out.setR (k := p) x)
        have hl5 : (ys2.set p x).length = ys2.length := List.length_set
        clear F0 F1 F3 rl q4 cA fA hqb
        obtain ⟨V5, hV5⟩ : ∃ X, X = w4.setCell ⟨qa, p, none⟩ (.int .i64 x) := ⟨_, rfl⟩
        rw [← hV5] at F5
        try rw [← hV5]
        clear hV5
        generalize ys2.set p x = zs at *
        have hl5a : zs.length ≤ ys2.length := by omega
        clear hl5
        obtain ⟨b0, b1, y0, y1, bg⟩ := F5.out.box.c2
        obtain ⟨r0, r1, f0, f1, rg⟩ := F5.out.res.c2
        have hfin := Lib.hid (F5.out.fin (B0 := B) (n := 40) (by omega) (.slice A2 xs2.length a2) (.slice (some ⟨qa, 0, none⟩) zs.length c2))
        go_wp2_with fail
        exact bodyPost_ret (v := .agg #[.slice A2 xs2.length a2, .slice (some ⟨qa, 0, none⟩) zs.length c2]) (by simp [results, Try.results83, go_sem, *]) rfl ⟨A2, a2, xs2, (some ⟨qa, 0, none⟩), c2, zs, rfl, by omega, by omega, hfin.out.1, hfin.out.2.1, hfin.out.2.2.1, hfin.out.2.2.2.1, hfin.out.2.2.2.2⟩
      by_cases y2c : y = 2
      · skip
        have t0 : (y == 0) = false := by rw [beq_eq_false_iff_ne]; omega
        have t1 : (y == 1) = false := by rw [beq_eq_false_iff_ne]; omega
        have t2 : (y == 2) = true := by rw [beq_iff_eq]; omega
        clear z0 z1
        have hcap := G3.out.row2.max
        have hpc : p ≤ c2 := by omega
        have hpc2 : (p : Int) ≤ (c2 : Int) := by omega
        clear hcap
        have F5 := Lib.hid (G3.out.cutR (k := p) (by omega))
        have hl5 : (ys2.take p).length = p := by rw [List.length_take]; omega
        go_upto_region 25 with fail
        obtain ⟨V5, hV5⟩ : ∃ X, X = w3.setCell ⟨w.heap.size + 1, 1, none⟩ (.slice C2 p c2) := ⟨_, rfl⟩
        rw [← hV5] at F5
        try rw [← hV5]
        clear hV5 b0 b1 y0 y1 bg r0 r1 f0 f1 rg G3
        have HL5 := Lib.hid hl5
        generalize ys2.take p = zs at *
        clear hl5
        obtain ⟨b0, b1, y0, y1, bg⟩ := F5.out.box.c2
        obtain ⟨r0, r1, f0, f1, rg⟩ := F5.out.res.c2
        have hfin := Lib.hid (F5.out.fin (B0 := B) (n := 40) (by omega) (.slice A2 xs2.length a2) (.slice C2 zs.length c2))
        go_wp2_with fail
        exact bodyPost_ret (v := .agg #[.slice A2 xs2.length a2, .slice C2 zs.length c2]) (by simp [results, Try.results83, go_sem, *]) rfl ⟨A2, a2, xs2, C2, c2, zs, rfl, by omega, by have := HL5.out; omega, hfin.out.1, hfin.out.2.1, hfin.out.2.2.1, hfin.out.2.2.2.1, hfin.out.2.2.2.2⟩
      by_cases y3c : y = 3
      · skip
        have t0 : (y == 0) = false := by rw [beq_eq_false_iff_ne]; omega
        have t1 : (y == 1) = false := by rw [beq_eq_false_iff_ne]; omega
        have t2 : (y == 2) = false := by rw [beq_eq_false_iff_ne]; omega
        have t3 : (y == 3) = true := by rw [beq_iff_eq]; omega
        clear z0 z1
        have hfin := Lib.hid (G3.out.fin (B0 := B) (n := 40) (by omega) (.slice none 0 0) (.slice none 0 0))
        go_wp2_with fail
        exact bodyPost_ret (v := .agg #[.slice none 0 0, .slice none 0 0]) (by simp [results, Try.results83, go_sem, *]) rfl ⟨none, 0, [], none, 0, [], rfl, by simp, by simp, K.Rd.nil _ _ _, K.Rd.nil _ _ _, fun q h => by simp [K.blk] at h, fun q h => by simp [K.blk] at h, hfin.out.2.2.2.2⟩
      by_cases y4c : y = 4
      · skip
        have t0 : (y == 0) = false := by rw [beq_eq_false_iff_ne]; omega
        have t1 : (y == 1) = false := by rw [beq_eq_false_iff_ne]; omega
        have t2 : (y == 2) = false := by rw [beq_eq_false_iff_ne]; omega
        have t3 : (y == 3) = false := by rw [beq_eq_false_iff_ne]; omega
        have t4 : (y == 4) = true := by rw [beq_iff_eq]; omega
        clear z0 z1
        have hfin := Lib.hid (G3.out.fin (B0 := B) (n := 40) (by omega) (.slice (some ⟨w3.heap.size, 0, none⟩) 7 7) (.slice (some ⟨w3.heap.size + 1, 0, none⟩) 7 7))
        obtain ⟨V, hV⟩ : ∃ X, X = ((w3.setCell ⟨w.heap.size, 0, none⟩ (.slice (some ⟨w3.heap.size, 0, none⟩) 7 7)).setCell ⟨w.heap.size, 1, none⟩ (.slice (some ⟨w3.heap.size + 1, 0, none⟩) 7 7)) := ⟨_, rfl⟩
        have hsv : V.heap.size = w3.heap.size := by rw [hV]; simp
        rw [← hV] at hfin
        have HV := Lib.hid hV
        clear hV
        have d1 := (K.Rd.new V #[.int .i64 1, .int .i64 2, .int .i64 3, .int .i64 4, .int .i64 0, .int .i64 1, .int .i64 2] 3 7 1 rfl).alloc (.cells #[.int .i64 1, .int .i64 0, .int .i64 1, .int .i64 0, .int .i64 1, .int .i64 0, .int .i64 1] 3)
        have d2 := K.Rd.new (V.alloc (.cells #[.int .i64 1, .int .i64 2, .int .i64 3, .int .i64 4, .int .i64 0, .int .i64 1, .int .i64 2] 3)) #[.int .i64 1, .int .i64 0, .int .i64 1, .int .i64 0, .int .i64 1, .int .i64 0, .int .i64 1] 3 7 1 rfl
        rw [World.size_alloc] at d2
        rw [hsv] at d1 d2
        have hwt : K.Went w lo g B 40 ((V.alloc (.cells #[.int .i64 1, .int .i64 2, .int .i64 3, .int .i64 4, .int .i64 0, .int .i64 1, .int .i64 2] 3)).alloc (.cells #[.int .i64 1, .int .i64 0, .int .i64 1, .int .i64 0, .int .i64 1, .int .i64 0, .int .i64 1] 3)) := ⟨(hfin.out.2.2.2.2.1.alloc _).alloc _, K.grown_trans hfin.out.2.2.2.2.2 (K.grown_below (((Below.refl _ _).alloc (Nat.le_refl _) _).alloc (by simp) _) _)⟩
        have HD := Lib.hid (And.intro d1 (And.intro d2 hwt))
        clear d1 d2 hwt hfin hsv
        go_wp2_with fail
        exact bodyPost_ret (v := .agg #[.slice (some ⟨w3.heap.size, 0, none⟩) 7 7, .slice (some ⟨w3.heap.size + 1, 0, none⟩) 7 7]) (by simp [results, Try.results83, go_sem, *]) rfl ⟨_, 7, [1, 2, 3, 4, 0, 1, 2], _, 7, [1, 0, 1, 0, 1, 0, 1], rfl, by simp, by simp, by rw [← HV.out]; exact HD.out.1, by rw [← HV.out]; exact HD.out.2.1, fun q h => by simp [K.blk] at h; omega, fun q h => by simp [K.blk] at h; omega, by rw [← HV.out]; exact HD.out.2.2⟩
      have t0 : (y == 0) = false := by rw [beq_eq_false_iff_ne]; omega
      have t1 : (y == 1) = false := by rw [beq_eq_false_iff_ne]; omega
      have t2 : (y == 2) = false := by rw [beq_eq_false_iff_ne]; omega
      have t3 : (y == 3) = false := by rw [beq_eq_false_iff_ne]; omega
      have t4 : (y == 4) = false := by rw [beq_eq_false_iff_ne]; omega
      clear z0 z1
      obtain ⟨b0, b1, y0, y1, bg⟩ := G3.out.box.c2
      obtain ⟨r0, r1, f0, f1, rg⟩ := G3.out.res.c2
      have hfin := Lib.hid (G3.out.fin (B0 := B) (n := 40) (by omega) (.slice A2 xs2.length a2) (.slice C2 ys2.length c2))
      go_wp2_with fail
      exact bodyPost_ret (v := .agg #[.slice A2 xs2.length a2, .slice C2 ys2.length c2]) (by simp [results, Try.results83, go_sem, *]) rfl ⟨A2, a2, xs2, C2, c2, ys2, rfl, by omega, by omega, hfin.out.1, hfin.out.2.1, hfin.out.2.2.1, hfin.out.2.2.2.1, hfin.out.2.2.2.2⟩
end Go.Proofs.Ytmgegacgjppdbaa.BoardD
