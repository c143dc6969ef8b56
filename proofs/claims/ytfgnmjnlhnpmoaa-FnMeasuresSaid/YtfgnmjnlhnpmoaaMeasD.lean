/-
  Walks: the draws of systems of units and of amounts (printed by gen_meas.py).
-/
import Derived.Test.YtfgnmjnlhnpmoaaCur
import Derived.Test.YtfgnmjnlhnpmoaaSliceInt
import Derived.Test.YtfgnmjnlhnpmoaaUnits
import Derived.Test.YtfgnmjnlhnpmoaaKit5
import Derived.Test.YtfgnmjnlhnpmoaaKit3
import Derived.Deep.DeepCutAuto
import Derived.Deep.RegionHeld3
import Derived.Deep.CutBlock
import Derived.Deep.DeepMust
set_option linter.unusedVariables false
namespace Go.Proofs.Ytfgnmjnlhnpmoaa.MeasD
open Go.RowKit
theorem grow_low {w a b : World} {row : Option Nat} {lo : Nat} (h : w.grownBy a row) (hb : Below lo a b) (hlo : w.heap.size ≤ lo) : w.grownBy b row :=
  ⟨hb.os.trans h.os, hb.tape.trans h.tape, hb.output.trans h.output, Nat.le_trans h.size hb.size, fun i hi hne => (hb.block i (by omega)).trans (h.block i hi hne)⟩
/-- a cursor, and what has turned since w: nothing old but the cursor. -/
structure Cg (w wr : World) (lo g Bq : Nat) : Prop where
  cur : K.Cur wr lo g Bq
  gro : w.grownBy wr (some g)
  glt : g < w.heap.size
section
variable {w wr w2 : World} {lo g Bq : Nat}
theorem Cg.start (h : K.Cur w lo g Bq) : Cg w w lo g Bq := ⟨h, World.grownBy.refl _ _, h.lt.2⟩
theorem Cg.alloc (F : Cg w wr lo g Bq) (o : Obj) : Cg w (wr.alloc o) lo g Bq := ⟨F.cur.alloc o, K.grown_trans F.gro (K.grown_below ((Below.refl _ _).alloc (Nat.le_refl _) _) _), F.glt⟩
theorem Cg.went {n : Nat} (F : Cg w wr lo g Bq) (h : K.Went wr lo g Bq n w2) : Cg w w2 lo g (Bq + n) := ⟨h.1, K.grown_trans F.gro h.2, F.glt⟩
theorem Cg.set (F : Cg w wr lo g Bq) {p : Addr} (hp : w.heap.size ≤ p.block) (u : Value) : Cg w (wr.setCell p u) lo g Bq :=
  ⟨F.cur.kept (K.setCell_grown wr p u) (fun q hq => by injection hq with hq; have := F.cur.lt; have := F.glt; omega) (fun e => by injection e with e; have := F.glt; omega), grow_low F.gro (lo := w.heap.size) ((Below.refl _ _).setCell hp u) (Nat.le_refl _), F.glt⟩
theorem Cg.fin {B n : Nat} (F : Cg w wr lo g Bq) (h : Bq ≤ B + n) : K.Went w lo g B n wr := ⟨F.cur.mono h, F.gro⟩
theorem Cg.grown (F : Cg w wr lo g Bq) {q : Nat} (hg : wr.grownBy w2 (some q)) (hq : w.heap.size ≤ q) : Cg w w2 lo g Bq :=
  ⟨F.cur.kept hg (fun k hk => by injection hk with hk; have := F.cur.lt; have := F.glt; omega) (fun e => by injection e with e; have := F.glt; omega), ⟨hg.os.trans F.gro.os, hg.tape.trans F.gro.tape, hg.output.trans F.gro.output, Nat.le_trans F.gro.size hg.size, fun i hi hne => (hg.block i (Nat.lt_of_lt_of_le hi F.gro.size) (fun e => by injection e with e; omega)).trans (F.gro.block i hi hne)⟩, F.glt⟩
theorem Cg.grownN (F : Cg w wr lo g Bq) {A : Option Addr} (hg : wr.grownBy w2 (K.blk A)) (hq : ∀ q, K.blk A = some q → w.heap.size ≤ q) : Cg w w2 lo g Bq := by
  cases h : K.blk A with
  | some q => rw [h] at hg; exact F.grown hg (hq q h)
  | none =>
    rw [h] at hg
    exact ⟨F.cur.kept hg (fun q hq => by cases hq) (fun e => by cases e), ⟨hg.os.trans F.gro.os, hg.tape.trans F.gro.tape, hg.output.trans F.gro.output, Nat.le_trans F.gro.size hg.size, fun i hi hne => (hg.block i (Nat.lt_of_lt_of_le hi F.gro.size) (fun e => by cases e)).trans (F.gro.block i hi hne)⟩, F.glt⟩
end
/-- an amount in the making beside a cursor: its box lies at w.heap.size + 1, the result's at w.heap.size. -/
structure Ad (w wr : World) (lo g Bq : Nat) (A : Option Addr) (c : Nat) (xs : List Int) : Prop where
  row : K.Row wr (w.heap.size + 1 + 1) 3 1 A xs.length c (xs.map (Value.int .i64))
  box : K.Own wr (w.heap.size + 1) [.slice A xs.length c]
  res : K.Own wr w.heap.size [.slice none 0 0]
  cur : K.Cur wr lo g Bq
  gro : w.grownBy wr (some g)
  glt : g < w.heap.size
theorem Ad.start {w : World} {lo g Bq : Nat} (h : K.Cur w lo g Bq) (t : TypeId) : Ad w ((w.alloc (.cells #[.slice none 0 0] t)).alloc (.cells #[.slice none 0 0] t)) lo g Bq none 0 [] :=
  ⟨K.Row.nil _ _ _ _, by have h := K.Own.new (w.alloc (.cells #[.slice none 0 0] t)) #[.slice none 0 0] t; rw [World.size_alloc] at h; exact h, (K.Own.new w #[.slice none 0 0] t).alloc _, (h.alloc _).alloc _, K.grown_below (((Below.refl _ _).alloc (Nat.le_refl _) _).alloc (by simp) _) _, h.lt.2⟩
section
variable {w wr w2 : World} {lo g Bq : Nat} {A : Option Addr} {c : Nat} {xs : List Int}
theorem Ad.size (F : Ad w wr lo g Bq A c xs) : w.heap.size + 1 + 1 ≤ wr.heap.size := F.box.1.1
theorem Ad.drew (F : Ad w wr lo g Bq A c xs) : Ad w wr.drew lo g Bq A c xs :=
  ⟨F.row.drew, F.box.drew, F.res.drew, F.cur.drew, K.grown_trans F.gro (K.grown_below (Below.refl _ _).drew _), F.glt⟩
theorem Ad.alloc (F : Ad w wr lo g Bq A c xs) (o : Obj) : Ad w (wr.alloc o) lo g Bq A c xs :=
  ⟨F.row.alloc o, F.box.alloc o, F.res.alloc o, F.cur.alloc o, K.grown_trans F.gro (K.grown_below ((Below.refl _ _).alloc (Nat.le_refl _) _) _), F.glt⟩
theorem Ad.went {n : Nat} (F : Ad w wr lo g Bq A c xs) (h : K.Went wr lo g Bq n w2) : Ad w w2 lo g (Bq + n) A c xs :=
  ⟨F.row.kept h.2 (fun q hq e => by injection e with e; have := (F.row.lt q hq).1; have := F.glt; omega), F.box.kept h.2 (fun e => by injection e with e; have := F.glt; omega), F.res.kept h.2 (fun e => by injection e with e; have := F.glt; omega), h.1, K.grown_trans F.gro h.2, F.glt⟩
theorem Ad.more {Bq' : Nat} (F : Ad w wr lo g Bq A c xs) (h : Bq ≤ Bq') : Ad w wr lo g Bq' A c xs := ⟨F.row, F.box, F.res, F.cur.mono h, F.gro, F.glt⟩
theorem Ad.low (F : Ad w wr lo g Bq A c xs) (hb : Below (w.heap.size + 1 + 1) wr w2) : K.Own w2 (w.heap.size + 1) [.slice A xs.length c] ∧ K.Own w2 w.heap.size [.slice none 0 0] :=
  ⟨F.box.low hb (by omega), F.res.low hb (by omega)⟩
theorem Ad.curSet (F : Ad w wr lo g Bq A c xs) {p : Addr} (hp : w.heap.size ≤ p.block) (u : Value) : K.Cur (wr.setCell p u) lo g Bq ∧ w.grownBy (wr.setCell p u) (some g) :=
  ⟨F.cur.kept (K.setCell_grown wr p u) (fun q hq => by injection hq with hq; have := F.cur.lt; have := F.glt; omega) (fun e => by injection e with e; have := F.glt; omega), grow_low F.gro (lo := w.heap.size) ((Below.refl _ _).setCell hp u) (Nat.le_refl _)⟩
theorem Ad.push (F : Ad w wr lo g Bq A c xs) {x : Int} {A' : Option Addr} {c' : Nat} (hr : K.Row w2 (w.heap.size + 1 + 1) 3 1 A' (xs.length + 1) c' (xs.map (Value.int .i64) ++ [.int .i64 x])) (hb : Below (w.heap.size + 1 + 1) wr w2) (hg : wr.grownBy w2 (K.blk A)) :
    Ad w (w2.setCell ⟨w.heap.size + 1, 0, none⟩ (.slice A' (xs.length + 1) c')) lo g Bq A' c' (xs ++ [x]) := by
  have hB := F.row.lt
  have hglt := F.glt
  have hc2 : K.Cur w2 lo g Bq := F.cur.kept hg (fun q hq => by have := (hB q hq).1; have := F.cur.lt; omega) (fun e => by have := (hB g e).1; omega)
  refine ⟨?_, ?_, ?_, ?_, ?_, F.glt⟩
  · rw [List.map_append, List.length_append]; exact hr.setOther (by simp) _
  · have h := (F.low hb).1.set_ 0 (by simp) (.slice A' (xs.length + 1) c')
    rw [List.length_append]; exact h
  · exact (F.low hb).2.setOther (by simp) _
  · exact hc2.kept (K.setCell_grown w2 _ _) (fun q hq => by injection hq with hq; simp only at hq; have := F.cur.lt; omega) (fun e => by injection e with e; simp only at e; omega)
  · exact grow_low (grow_low F.gro hb (by omega)) (lo := w.heap.size) ((Below.refl _ _).setCell (by simp) _) (Nat.le_refl _)
theorem Ad.setE {q k : Nat} (F : Ad w wr lo g Bq (some ⟨q, 0, none⟩) c xs) (v : Int) :
    Ad w (wr.setCell ⟨q, k, none⟩ (.int .i64 v)) lo g Bq (some ⟨q, 0, none⟩) c (xs.set k v) := by
  have hq := (F.row.lt q rfl).1
  have hc := F.curSet (p := ⟨q, k, none⟩) (by simp only; omega) (.int .i64 v)
  refine ⟨?_, ?_, F.res.setOther (by simp only; omega) _, hc.1, hc.2, F.glt⟩
  · rw [List.length_set]; exact F.row.setInt k v
  · rw [List.length_set]; exact F.box.setOther (by simp only; omega) _
theorem Ad.fin {B0 n : Nat} (F : Ad w wr lo g Bq A c xs) (hB : Bq ≤ B0 + n) (u : Value) :
    K.Rd (wr.setCell ⟨w.heap.size, 0, none⟩ u) 1 A xs.length (xs.map (Value.int .i64)) ∧ (∀ q, K.blk A = some q → w.heap.size ≤ q) ∧ K.Went w lo g B0 n (wr.setCell ⟨w.heap.size, 0, none⟩ u) := by
  have c1 := F.curSet (p := ⟨w.heap.size, 0, none⟩) (Nat.le_refl _) u
  refine ⟨(F.row.setOther (p := ⟨w.heap.size, 0, none⟩) (by simp only; omega) u).rd, (fun q hq => by have := (F.row.lt q hq).1; omega), c1.1.mono hB, c1.2⟩
end
def litA : List Int := [0, 0, 1, 5, 11, 12, 99, 9999]
def litB : List Int := [-1, 10000]
set_option maxRecDepth 100000 in
set_option maxHeartbeats 8000000 in
theorem amount7 (w : World) (lo g B n c0 : Nat) (A0 : Option Addr) (h : K.Cur w lo g B) (hB : B ≤ 1000000) (hn : n ≤ 8) :
    Calls Try.prog 82 #[.pointer (some ⟨g, 0, none⟩), .slice A0 n c0] w fun e w' => ∃ (A : Option Addr) (c : Nat) (k : List Int), e = .returned (.agg #[.slice A k.length c]) ∧ k.length ≤ 9 ∧ K.Rd w' 1 A k.length (k.map (Value.int .i64)) ∧ (∀ q, K.blk A = some q → w.heap.size ≤ q) ∧ K.Went w lo g B 40 w' := by
  obtain ⟨i0, hi0, hz0, hz1, hz2⟩ := info_parts SlInt.info
  have hF := Lib.hid (Ad.start h 40)
  clear h
  go_enter Try.func82, Try.ntmps82
  go_wp2_with fail
  go_loopw [6] (fun i wr => ∃ (k : Nat) (A : Option Addr) (a : Nat) (xs : List Int), k ≤ n ∧ i = .int .i64 (k : Int) ∧ Hid (xs.length = k) ∧ Hid (Ad w wr lo g (B + 2 * k) A a xs)) (fun i _ => n - (intOf i).toNat)
  case atStart => exact ⟨0, none, 0, [], Nat.zero_le _, rfl, Lib.hid rfl, hF⟩
  case round =>
    clear hF
    obtain ⟨k, A, a, xs, hk, rfl, HX, HF⟩ := hrel
    by_cases hlt : k < n
    · have h1 : (k : Int) < (n : Int) := by omega
      have hxm : xs.length + 1 ≤ maxLen := by rw [HX.out]; simp only [maxLen]; omega
      have hx9 : xs.length ≤ 9 := by rw [HX.out]; omega
      go_upto_region 5 with fail
      obtain ⟨W5, hW5⟩ : ∃ X, X = World.drew wr := ⟨_, rfl⟩
      have F0 := Lib.hid (show Ad w W5 lo g (B + 2 * k) A a xs by rw [hW5]; exact HF.out.drew)
      refine wp_region_held_drew (S := fun _ => True) (by kernel_rfl) trivial (fun hHeld => ?_)
      rw [← hW5]
      clear hW5 HF
      refine K.takeL 0 (v := ?_) rfl (by kernel_rfl) (by kernel_rfl) (by kernel_rfl) (fun _ _ _ h => h) (Or.inl ⟨rfl, ?_⟩) (by assumption) ?_
      rotate_left
      · intro w hSw; (try dsimp only at hSw); first | (go_simp; done) | (go_simp; with_reducible rfl)
      simp only [Act.put, List.setIfInBounds_toArray, List.set_cons_zero, List.set_cons_succ]
      refine K.takeL 2 (v := ?_) rfl (by kernel_rfl) (by kernel_rfl) (by kernel_rfl) (fun _ _ _ h => h) (Or.inl ⟨rfl, ?_⟩) (by assumption) ?_
      rotate_left
      · intro w hSw; (try dsimp only at hSw); first | (go_simp; done) | (go_simp; with_reducible rfl)
      simp only [Act.put, List.setIfInBounds_toArray, List.set_cons_zero, List.set_cons_succ]
      refine wpAnyH_ready (rs := [1, 3]) (by kernel_rfl) (by simp) (AllReadyH.cons (by rfl) (fun KK hK => ?_) (AllReadyH.cons (by rfl) (fun KK hK => ?_) AllReadyH.nil))
      · skip
        obtain ⟨b0, y0, bg⟩ := F0.out.box.c1
        go_simp
        clear b0 y0 bg
        refine hK.out _ _ trivial (fun hHeld => ?_)
        clear hK KK
        try simp only [Act.put, List.setIfInBounds_toArray, List.set_cons_zero, List.set_cons_succ]
        refine K.consL 3 rfl (by kernel_rfl) (fun KK hK => ?_)
        go_simp
        have F1 := Lib.hid (F0.out.alloc (.cells #[.int .i64 0, .int .i64 0, .int .i64 1, .int .i64 5, .int .i64 11, .int .i64 12, .int .i64 99, .int .i64 9999] 3))
        have rl := K.Rd.new W5 #[.int .i64 0, .int .i64 0, .int .i64 1, .int .i64 5, .int .i64 11, .int .i64 12, .int .i64 99, .int .i64 9999] 3 8 1 rfl
        have hsz := F0.out.size
        refine hK.out _ _ trivial (fun hHeld => ?_)
        clear hK KK
        try simp only [Act.put, List.setIfInBounds_toArray, List.set_cons_zero, List.set_cons_succ]
        refine K.consL 4 rfl (by kernel_rfl) (fun KK hK => ?_)
        go_simp
        refine (Cur.among _ lo g _ (some ⟨W5.heap.size, 0, none⟩) 8 litA F1.out.cur (by omega) (by decide) rl (fun e => by simp [K.blk] at e; have := F0.out.glt; omega)).mono ?_
        rintro e w3 ⟨x, rfl, hx, q3⟩
        go_wp2_with fail
        have F3 := Lib.hid (F1.out.went q3)
        refine hK.out _ _ trivial (fun hHeld => ?_)
        clear hK KK
        try simp only [Act.put, List.setIfInBounds_toArray, List.set_cons_zero, List.set_cons_succ]
        refine K.consL 5 rfl (by kernel_rfl) (fun KK hK => ?_)
        go_simp
        have F4 := Lib.hid (F3.out.alloc (.cells #[.int .i64 x] 3))
        have rn := K.Rd.new w3 #[.int .i64 x] 3 1 1 rfl
        have hsz4 := F4.out.size
        refine hK.out _ _ trivial (fun hHeld => ?_)
        clear hK KK
        try simp only [Act.put, List.setIfInBounds_toArray, List.set_cons_zero, List.set_cons_succ]
        refine K.consL 6 rfl (by kernel_rfl) (fun KK hK => ?_)
        refine K.stepN (by rfl) (.tmp 15) (.tmp 19) _ (by rfl) (w.heap.size + 1 + 1) _ i0 _ 1 8 Try.underlying35 hi0 hz0 hz1 hz2 rfl (by omega) A xs.length a _ (by rfl) F4.out.row (some ⟨w3.heap.size, 0, none⟩) 1 1 #[.int .i64 x].toList (by rfl) rn (by simp [Value.oneCell']) hxm (by omega) hsz4 ?_
        intro A5 c5 w4 hrow4 hb4 hgr4 hat4
        have own4 := (F4.out.low hb4).1
        refine hK.out _ _ trivial (fun hHeld => ?_)
        clear hK KK
        try simp only [Act.put, List.setIfInBounds_toArray, List.set_cons_zero, List.set_cons_succ]
        refine K.takeL 7 (v := ?_) rfl (by kernel_rfl) (by kernel_rfl) (by kernel_rfl) (fun _ _ _ h => h) (Or.inl ⟨rfl, ?_⟩) (by assumption) ?_
        rotate_left
        · intro w hSw; (try dsimp only at hSw); first | (go_simp; done) | (go_simp; with_reducible rfl)
        simp only [Act.put, List.setIfInBounds_toArray, List.set_cons_zero, List.set_cons_succ]
        refine K.consL 8 rfl (by kernel_rfl) (fun KK hK => ?_)
        obtain ⟨b0, y0, bg⟩ := own4.c1
        go_simp
        clear b0 y0 bg
        refine hK.out _ _ trivial (fun hHeld => ?_)
        clear hK KK
        try simp only [Act.put, List.setIfInBounds_toArray, List.set_cons_zero, List.set_cons_succ]
        refine wpAnyH_done (by kernel_rfl) ?_ _
        have F5 := Lib.hid (F4.out.push hrow4 hb4 hgr4)
        clear F0 F1 F3 F4 hrow4 hb4 hgr4 hat4 own4 rl rn q3 hsz hsz4
        obtain ⟨V5, hV5⟩ : ∃ X, X = w4.setCell ⟨w.heap.size + 1, 0, none⟩ (.slice A5 (xs.length + 1) c5) := ⟨_, rfl⟩
        rw [← hV5] at F5
        try rw [← hV5]
        clear hV5
        go_wp2_with fail
        go_roundw
        case rel => exact ⟨k + 1, A5, c5, xs ++ [x], by omega, by go_num, Lib.hid (by rw [List.length_append, HX.out]; rfl), Lib.hid (F5.out.more (by omega))⟩
        case measure => first | (simp [intOf]; done) | (simp [intOf]; omega)
      · skip
        go_simp
        have F1 := Lib.hid (F0.out.alloc (.cells #[.int .i64 0, .int .i64 0, .int .i64 1, .int .i64 5, .int .i64 11, .int .i64 12, .int .i64 99, .int .i64 9999] 3))
        have rl := K.Rd.new W5 #[.int .i64 0, .int .i64 0, .int .i64 1, .int .i64 5, .int .i64 11, .int .i64 12, .int .i64 99, .int .i64 9999] 3 8 1 rfl
        have hsz := F0.out.size
        refine hK.out _ _ trivial (fun hHeld => ?_)
        clear hK KK
        try simp only [Act.put, List.setIfInBounds_toArray, List.set_cons_zero, List.set_cons_succ]
        refine wpAnyH_ready (rs := [1, 4]) (by kernel_rfl) (by simp) (AllReadyH.cons (by rfl) (fun KK hK => ?_) (AllReadyH.cons (by rfl) (fun KK hK => ?_) AllReadyH.nil))
        · skip
          obtain ⟨b0, y0, bg⟩ := F1.out.box.c1
          go_simp
          clear b0 y0 bg
          refine hK.out _ _ trivial (fun hHeld => ?_)
          clear hK KK
          try simp only [Act.put, List.setIfInBounds_toArray, List.set_cons_zero, List.set_cons_succ]
          refine K.consL 4 rfl (by kernel_rfl) (fun KK hK => ?_)
          go_simp
          refine (Cur.among _ lo g _ (some ⟨W5.heap.size, 0, none⟩) 8 litA F1.out.cur (by omega) (by decide) rl (fun e => by simp [K.blk] at e; have := F0.out.glt; omega)).mono ?_
          rintro e w3 ⟨x, rfl, hx, q3⟩
          go_wp2_with fail
          have F3 := Lib.hid (F1.out.went q3)
          refine hK.out _ _ trivial (fun hHeld => ?_)
          clear hK KK
          try simp only [Act.put, List.setIfInBounds_toArray, List.set_cons_zero, List.set_cons_succ]
          refine K.consL 5 rfl (by kernel_rfl) (fun KK hK => ?_)
          go_simp
          have F4 := Lib.hid (F3.out.alloc (.cells #[.int .i64 x] 3))
          have rn := K.Rd.new w3 #[.int .i64 x] 3 1 1 rfl
          have hsz4 := F4.out.size
          refine hK.out _ _ trivial (fun hHeld => ?_)
          clear hK KK
          try simp only [Act.put, List.setIfInBounds_toArray, List.set_cons_zero, List.set_cons_succ]
          refine K.consL 6 rfl (by kernel_rfl) (fun KK hK => ?_)
          refine K.stepN (by rfl) (.tmp 15) (.tmp 19) _ (by rfl) (w.heap.size + 1 + 1) _ i0 _ 1 8 Try.underlying35 hi0 hz0 hz1 hz2 rfl (by omega) A xs.length a _ (by rfl) F4.out.row (some ⟨w3.heap.size, 0, none⟩) 1 1 #[.int .i64 x].toList (by rfl) rn (by simp [Value.oneCell']) hxm (by omega) hsz4 ?_
          intro A5 c5 w4 hrow4 hb4 hgr4 hat4
          have own4 := (F4.out.low hb4).1
          refine hK.out _ _ trivial (fun hHeld => ?_)
          clear hK KK
          try simp only [Act.put, List.setIfInBounds_toArray, List.set_cons_zero, List.set_cons_succ]
          refine K.takeL 7 (v := ?_) rfl (by kernel_rfl) (by kernel_rfl) (by kernel_rfl) (fun _ _ _ h => h) (Or.inl ⟨rfl, ?_⟩) (by assumption) ?_
          rotate_left
          · intro w hSw; (try dsimp only at hSw); first | (go_simp; done) | (go_simp; with_reducible rfl)
          simp only [Act.put, List.setIfInBounds_toArray, List.set_cons_zero, List.set_cons_succ]
          refine K.consL 8 rfl (by kernel_rfl) (fun KK hK => ?_)
          obtain ⟨b0, y0, bg⟩ := own4.c1
          go_simp
          clear b0 y0 bg
          refine hK.out _ _ trivial (fun hHeld => ?_)
          clear hK KK
          try simp only [Act.put, List.setIfInBounds_toArray, List.set_cons_zero, List.set_cons_succ]
          refine wpAnyH_done (by kernel_rfl) ?_ _
          have F5 := Lib.hid (F4.out.push hrow4 hb4 hgr4)
          clear F0 F1 F3 F4 hrow4 hb4 hgr4 hat4 own4 rl rn q3 hsz hsz4
          obtain ⟨V5, hV5⟩ : ∃ X, X = w4.setCell ⟨w.heap.size + 1, 0, none⟩ (.slice A5 (xs.length + 1) c5) := ⟨_, rfl⟩
          rw [← hV5] at F5
          try rw [← hV5]
          clear hV5
          go_wp2_with fail
          go_roundw
          case rel => exact ⟨k + 1, A5, c5, xs ++ [x], by omega, by go_num, Lib.hid (by rw [List.length_append, HX.out]; rfl), Lib.hid (F5.out.more (by omega))⟩
          case measure => first | (simp [intOf]; done) | (simp [intOf]; omega)
        · skip
          go_simp
          refine (Cur.among _ lo g _ (some ⟨W5.heap.size, 0, none⟩) 8 litA F1.out.cur (by omega) (by decide) rl (fun e => by simp [K.blk] at e; have := F0.out.glt; omega)).mono ?_
          rintro e w3 ⟨x, rfl, hx, q3⟩
          go_wp2_with fail
          have F3 := Lib.hid (F1.out.went q3)
          refine hK.out _ _ trivial (fun hHeld => ?_)
          clear hK KK
          try simp only [Act.put, List.setIfInBounds_toArray, List.set_cons_zero, List.set_cons_succ]
          refine wpAnyH_ready (rs := [1, 5]) (by kernel_rfl) (by simp) (AllReadyH.cons (by rfl) (fun KK hK => ?_) (AllReadyH.cons (by rfl) (fun KK hK => ?_) AllReadyH.nil))
          · skip
            obtain ⟨b0, y0, bg⟩ := F3.out.box.c1
            go_simp
            clear b0 y0 bg
            refine hK.out _ _ trivial (fun hHeld => ?_)
            clear hK KK
            try simp only [Act.put, List.setIfInBounds_toArray, List.set_cons_zero, List.set_cons_succ]
            refine K.consL 5 rfl (by kernel_rfl) (fun KK hK => ?_)
            go_simp
            have F4 := Lib.hid (F3.out.alloc (.cells #[.int .i64 x] 3))
            have rn := K.Rd.new w3 #[.int .i64 x] 3 1 1 rfl
            have hsz4 := F4.out.size
            refine hK.out _ _ trivial (fun hHeld => ?_)
            clear hK KK
            try simp only [Act.put, List.setIfInBounds_toArray, List.set_cons_zero, List.set_cons_succ]
            refine K.consL 6 rfl (by kernel_rfl) (fun KK hK => ?_)
            refine K.stepN (by rfl) (.tmp 15) (.tmp 19) _ (by rfl) (w.heap.size + 1 + 1) _ i0 _ 1 8 Try.underlying35 hi0 hz0 hz1 hz2 rfl (by omega) A xs.length a _ (by rfl) F4.out.row (some ⟨w3.heap.size, 0, none⟩) 1 1 #[.int .i64 x].toList (by rfl) rn (by simp [Value.oneCell']) hxm (by omega) hsz4 ?_
            intro A5 c5 w4 hrow4 hb4 hgr4 hat4
            have own4 := (F4.out.low hb4).1
            refine hK.out _ _ trivial (fun hHeld => ?_)
            clear hK KK
            try simp only [Act.put, List.setIfInBounds_toArray, List.set_cons_zero, List.set_cons_succ]
            refine K.takeL 7 (v := ?_) rfl (by kernel_rfl) (by kernel_rfl) (by kernel_rfl) (fun _ _ _ h => h) (Or.inl ⟨rfl, ?_⟩) (by assumption) ?_
            rotate_left
            · intro w hSw; (try dsimp only at hSw); first | (go_simp; done) | (go_simp; with_reducible rfl)
            simp only [Act.put, List.setIfInBounds_toArray, List.set_cons_zero, List.set_cons_succ]
            refine K.consL 8 rfl (by kernel_rfl) (fun KK hK => ?_)
            obtain ⟨b0, y0, bg⟩ := own4.c1
            go_simp
            clear b0 y0 bg
            refine hK.out _ _ trivial (fun hHeld => ?_)
            clear hK KK
            try simp only [Act.put, List.setIfInBounds_toArray, List.set_cons_zero, List.set_cons_succ]
            refine wpAnyH_done (by kernel_rfl) ?_ _
            have F5 := Lib.hid (F4.out.push hrow4 hb4 hgr4)
            clear F0 F1 F3 F4 hrow4 hb4 hgr4 hat4 own4 rl rn q3 hsz hsz4
            obtain ⟨V5, hV5⟩ : ∃ X, X = w4.setCell ⟨w.heap.size + 1, 0, none⟩ (.slice A5 (xs.length + 1) c5) := ⟨_, rfl⟩
            rw [← hV5] at F5
            try rw [← hV5]
            clear hV5
            go_wp2_with fail
            go_roundw
            case rel => exact ⟨k + 1, A5, c5, xs ++ [x], by omega, by go_num, Lib.hid (by rw [List.length_append, HX.out]; rfl), Lib.hid (F5.out.more (by omega))⟩
            case measure => first | (simp [intOf]; done) | (simp [intOf]; omega)
          · skip
            go_simp
            have F4 := Lib.hid (F3.out.alloc (.cells #[.int .i64 x] 3))
            have rn := K.Rd.new w3 #[.int .i64 x] 3 1 1 rfl
            have hsz4 := F4.out.size
            refine hK.out _ _ trivial (fun hHeld => ?_)
            clear hK KK
            try simp only [Act.put, List.setIfInBounds_toArray, List.set_cons_zero, List.set_cons_succ]
            refine K.consL 1 rfl (by kernel_rfl) (fun KK hK => ?_)
            obtain ⟨b0, y0, bg⟩ := F4.out.box.c1
            go_simp
            clear b0 y0 bg
            refine hK.out _ _ trivial (fun hHeld => ?_)
            clear hK KK
            try simp only [Act.put, List.setIfInBounds_toArray, List.set_cons_zero, List.set_cons_succ]
            refine K.consL 6 rfl (by kernel_rfl) (fun KK hK => ?_)
            refine K.stepN (by rfl) (.tmp 15) (.tmp 19) _ (by rfl) (w.heap.size + 1 + 1) _ i0 _ 1 8 Try.underlying35 hi0 hz0 hz1 hz2 rfl (by omega) A xs.length a _ (by rfl) F4.out.row (some ⟨w3.heap.size, 0, none⟩) 1 1 #[.int .i64 x].toList (by rfl) rn (by simp [Value.oneCell']) hxm (by omega) hsz4 ?_
            intro A5 c5 w4 hrow4 hb4 hgr4 hat4
            have own4 := (F4.out.low hb4).1
            refine hK.out _ _ trivial (fun hHeld => ?_)
            clear hK KK
            try simp only [Act.put, List.setIfInBounds_toArray, List.set_cons_zero, List.set_cons_succ]
            refine K.takeL 7 (v := ?_) rfl (by kernel_rfl) (by kernel_rfl) (by kernel_rfl) (fun _ _ _ h => h) (Or.inl ⟨rfl, ?_⟩) (by assumption) ?_
            rotate_left
            · intro w hSw; (try dsimp only at hSw); first | (go_simp; done) | (go_simp; with_reducible rfl)
            simp only [Act.put, List.setIfInBounds_toArray, List.set_cons_zero, List.set_cons_succ]
            refine K.consL 8 rfl (by kernel_rfl) (fun KK hK => ?_)
            obtain ⟨b0, y0, bg⟩ := own4.c1
            go_simp
            clear b0 y0 bg
            refine hK.out _ _ trivial (fun hHeld => ?_)
            clear hK KK
            try simp only [Act.put, List.setIfInBounds_toArray, List.set_cons_zero, List.set_cons_succ]
            refine wpAnyH_done (by kernel_rfl) ?_ _
            have F5 := Lib.hid (F4.out.push hrow4 hb4 hgr4)
            clear F0 F1 F3 F4 hrow4 hb4 hgr4 hat4 own4 rl rn q3 hsz hsz4
            obtain ⟨V5, hV5⟩ : ∃ X, X = w4.setCell ⟨w.heap.size + 1, 0, none⟩ (.slice A5 (xs.length + 1) c5) := ⟨_, rfl⟩
            rw [← hV5] at F5
            try rw [← hV5]
            clear hV5
            go_wp2_with fail
            go_roundw
            case rel => exact ⟨k + 1, A5, c5, xs ++ [x], by omega, by go_num, Lib.hid (by rw [List.length_append, HX.out]; rfl), Lib.hid (F5.out.more (by omega))⟩
            case measure => first | (simp [intOf]; done) | (simp [intOf]; omega)
    · obtain rfl : k = n := by omega
      have hx8 : xs.length ≤ 8 := by rw [HX.out]; exact hn
      have hxm : xs.length + 1 ≤ maxLen := by simp only [maxLen]; omega
      clear hlt HX
      go_wp2_with fail
      refine (Cur.pick _ lo g _ 50 HF.out.cur (by omega)).mono ?_
      rintro e w2 ⟨y, rfl, ⟨z0, z1⟩, q2⟩
      have G := Lib.hid (HF.out.went q2)
      clear q2 HF
      by_cases y0c : y = 0
      · have t0 : (y == 0) = true := by rw [beq_iff_eq]; omega
        clear z0 z1
        have hsz := G.out.size
        obtain ⟨b0, x0, bg⟩ := G.out.box.c1
        go_upto_region 12 with (at_builtin; go_must (refine K.append1 rfl (.tmp 27) (.tmp 28) _ rfl (w.heap.size + 1 + 1) _ i0 _ 1 8 Try.underlying35 hi0 hz0 hz1 hz2 rfl (by omega) A xs.length a _ rfl G.out.row #[.int .i64 1] rfl (by simp [Value.oneCell']) (by simp [go_sem]) hxm (by omega) hsz ?_; intro g5 c5 w5 hrow5 hb5 hlo5 hat5 hg5; have own5 := (G.out.low hb5).1; obtain ⟨b5, x5, bg5⟩ := own5.c1))
        have F5 := Lib.hid (G.out.push hrow5 hb5 hg5)
        clear b0 x0 bg hsz hrow5 hb5 hlo5 hat5 hg5 own5 b5 x5 bg5 G
        obtain ⟨V5, hV5⟩ : ∃ X, X = w5.setCell ⟨w.heap.size + 1, 0, none⟩ (.slice (some ⟨g5, 0, none⟩) (xs.length + 1) c5) := ⟨_, rfl⟩
        rw [← hV5] at F5
        try rw [← hV5]
        clear hV5
        have hl5 : (xs ++ [(1 : Int)]).length = xs.length + 1 := by simp
        skip
        generalize xs ++ [(1 : Int)] = zs at *
        obtain ⟨b0, y0, bg⟩ := F5.out.box.c1
        obtain ⟨r0, f0, rg⟩ := F5.out.res.c1
        have hfin := Lib.hid (F5.out.fin (B0 := B) (n := 40) (by omega) (.slice (some ⟨g5, 0, none⟩) (xs.length + 1) c5))
        go_wp2_with fail
        exact bodyPost_ret (v := .agg #[.slice (some ⟨g5, 0, none⟩) zs.length c5]) (by simp [results, Try.results82, go_sem, *]) rfl ⟨(some ⟨g5, 0, none⟩), c5, zs, rfl, by omega, hfin.out.1, hfin.out.2.1, hfin.out.2.2⟩
      have t0 : (y == 0) = false := by rw [beq_eq_false_iff_ne]; omega
      by_cases y1c : y = 1
      · have t1 : (y == 1) = true := by rw [beq_iff_eq]; omega
        clear z0 z1
        by_cases hl : 0 < xs.length
        · have hl1 : (0 : Int) < (xs.length : Int) := by omega
          obtain ⟨b0, x0, bg⟩ := G.out.box.c1
          go_upto_region 11 with fail
          obtain ⟨W11, hW11⟩ : ∃ X, X = World.drew w2 := ⟨_, rfl⟩
          clear b0 x0 bg
          have F0 := Lib.hid (show Ad w W11 lo g (B + 2 * k + 2) A a xs by rw [hW11]; exact G.out.drew)
          obtain ⟨qa, eA, hql, _, _, _⟩ := F0.out.row.int hl
          subst eA
          obtain ⟨b0, x0, bg⟩ := F0.out.box.c1
          refine wp_region_held_drew (S := fun w' => w'.cell? ⟨w.heap.size + 1, 0, none⟩ = some (.slice (some ⟨qa, 0, none⟩) xs.length a)) (by kernel_rfl) (by rw [← hW11]; exact b0) (fun hHeld => ?_)
          rw [← hW11] at hHeld ⊢
          clear hW11 G
          refine K.takeL 0 (v := ?_) rfl (by kernel_rfl) (by kernel_rfl) (by kernel_rfl) (fun _ _ _ h => h) (Or.inl ⟨rfl, ?_⟩) (by assumption) ?_
          rotate_left
          · intro w hSw; (try dsimp only at hSw); first | (go_simp; done) | (go_simp; with_reducible rfl)
          simp only [Act.put, List.setIfInBounds_toArray, List.set_cons_zero, List.set_cons_succ]
          refine K.takeL 1 (v := ?_) rfl (by kernel_rfl) (by kernel_rfl) (by kernel_rfl) (fun _ _ _ h => h) (Or.inl ⟨rfl, ?_⟩) (by assumption) ?_
          rotate_left
          · intro w hSw; (try dsimp only at hSw); first | (go_simp; done) | (go_simp; with_reducible rfl)
          simp only [Act.put, List.setIfInBounds_toArray, List.set_cons_zero, List.set_cons_succ]
          refine K.takeL 2 (v := ?_) rfl (by kernel_rfl) (by kernel_rfl) (by kernel_rfl) (fun _ _ _ h => h) (Or.inl ⟨rfl, ?_⟩) (by assumption) ?_
          rotate_left
          · intro w hSw; (try dsimp only at hSw); first | (go_simp; done) | (go_simp; with_reducible rfl)
          simp only [Act.put, List.setIfInBounds_toArray, List.set_cons_zero, List.set_cons_succ]
          refine K.consL 3 rfl (by kernel_rfl) (fun KK hK => ?_)
          go_simp
          have F1 := Lib.hid (F0.out.alloc (.cells #[.int .i64 (-1), .int .i64 10000] 3))
          have rl := K.Rd.new W11 #[.int .i64 (-1), .int .i64 10000] 3 2 1 rfl
          refine hK.out _ _ F1.out.box.c1.1 (fun hHeld => ?_)
          clear hK KK
          try simp only [Act.put, List.setIfInBounds_toArray, List.set_cons_zero, List.set_cons_succ]
          refine K.consL 4 rfl (by kernel_rfl) (fun KK hK => ?_)
          clear b0 x0 bg
          go_simp
          refine (Cur.among _ lo g _ (some ⟨W11.heap.size, 0, none⟩) 2 litB F1.out.cur (by omega) (by decide) rl (fun e => by simp [K.blk] at e; have := F0.out.glt; have := F0.out.size; omega)).mono ?_
          rintro e w4 ⟨x, rfl, hx, q4⟩
          go_wp2_with fail
          have F3 := Lib.hid (F1.out.went q4)
          obtain ⟨qb, eB, _, hqb, cA, fA⟩ := F3.out.row.int hl
          injection eB with eB
          injection eB with eB
          subst eB
          refine hK.out _ _ F3.out.box.c1.1 (fun hHeld => ?_)
          clear hK KK
          try simp only [Act.put, List.setIfInBounds_toArray, List.set_cons_zero, List.set_cons_succ]
          refine K.takeL 5 (v := ?_) rfl (by kernel_rfl) (by kernel_rfl) (by kernel_rfl) (fun _ _ _ h => h) (Or.inl ⟨rfl, ?_⟩) (by assumption) ?_
          rotate_left
          · intro w hSw; (try dsimp only at hSw); first | (go_simp; done) | (go_simp; with_reducible rfl)
          simp only [Act.put, List.setIfInBounds_toArray, List.set_cons_zero, List.set_cons_succ]
          refine K.consL 6 rfl (by kernel_rfl) (fun KK hK => ?_)
          go_simp
          refine hK.out _ _ ((F3.out.box.setOther (p := ⟨qa, 0, none⟩) (by simp only; omega) _).c1.1) (fun hHeld => ?_)
          clear hK KK
          try simp only [Act.put, List.setIfInBounds_toArray, List.set_cons_zero, List.set_cons_succ]
          refine wpAnyH_done (by kernel_rfl) ?_ _
          have F5 := Lib.hid (F3.out.setE (k := 0) x)
          have hl5 : (xs.set 0 x).length = xs.length := List.length_set
          clear F0 F1 F3 rl q4 cA fA hqb
          obtain ⟨V5, hV5⟩ : ∃ X, X = w4.setCell ⟨qa, 0, none⟩ (.int .i64 x) := ⟨_, rfl⟩
          rw [← hV5] at F5
          try rw [← hV5]
          clear hV5
          generalize xs.set 0 x = zs at *
          obtain ⟨b0, y0, bg⟩ := F5.out.box.c1
          obtain ⟨r0, f0, rg⟩ := F5.out.res.c1
          have hfin := Lib.hid (F5.out.fin (B0 := B) (n := 40) (by omega) (.slice (some ⟨qa, 0, none⟩) (xs.length) a))
          go_wp2_with fail
          exact bodyPost_ret (v := .agg #[.slice (some ⟨qa, 0, none⟩) zs.length a]) (by simp [results, Try.results82, go_sem, *]) rfl ⟨(some ⟨qa, 0, none⟩), a, zs, rfl, by omega, hfin.out.1, hfin.out.2.1, hfin.out.2.2⟩
        · have hl1 : ¬ ((0 : Int) < (xs.length : Int)) := by omega
          obtain ⟨b0, y0, bg⟩ := G.out.box.c1
          obtain ⟨r0, f0, rg⟩ := G.out.res.c1
          have hfin := Lib.hid (G.out.fin (B0 := B) (n := 40) (by omega) (.slice A (xs.length) a))
          go_wp2_with fail
          exact bodyPost_ret (v := .agg #[.slice A xs.length a]) (by simp [results, Try.results82, go_sem, *]) rfl ⟨A, a, xs, rfl, by omega, hfin.out.1, hfin.out.2.1, hfin.out.2.2⟩
      have t1 : (y == 1) = false := by rw [beq_eq_false_iff_ne]; omega
      clear z0 z1
      obtain ⟨b0, y0, bg⟩ := G.out.box.c1
      obtain ⟨r0, f0, rg⟩ := G.out.res.c1
      have hfin := Lib.hid (G.out.fin (B0 := B) (n := 40) (by omega) (.slice A (xs.length) a))
      go_wp2_with fail
      exact bodyPost_ret (v := .agg #[.slice A xs.length a]) (by simp [results, Try.results82, go_sem, *]) rfl ⟨A, a, xs, rfl, by omega, hfin.out.1, hfin.out.2.1, hfin.out.2.2⟩
theorem unit_set : ∀ (l : List M.Unit) (k : Nat) (hk : k < l.length) (s : ByteArray) (z : Int), ((l.flatMap M.unitCells).set (k * 2) (.string s)).set (k * 2 + 1) (.int .i64 z) = (l.set k ⟨s, z⟩).flatMap M.unitCells
  | [], k, hk, s, z => absurd hk (by simp)
  | u :: l, 0, hk, s, z => by simp [M.unitCells, List.flatMap_cons]
  | u :: l, k + 1, hk, s, z => by
      have ih := unit_set l k (by simpa using hk) s z
      simp only [List.flatMap_cons, List.set_cons_succ, M.unitCells] at ih ⊢
      rw [show (k + 1) * 2 = k * 2 + 1 + 1 from by omega]
      simp only [List.cons_append, List.nil_append, List.set_cons_succ]
      rw [ih]
theorem row_one (w : World) (a b : Value) : K.Row (w.alloc (.cells #[a, b] 74)) w.heap.size 74 2 (some ⟨w.heap.size, 0, none⟩) 1 1 [a, b] :=
  ⟨by simp, .inr ⟨w.heap.size, 1, #[a, b], rfl, Nat.le_refl _, heap_alloc_new w _, Nat.le_refl _, by simp [maxLen], rfl, by simp⟩⟩
def nmL : List ByteArray := [⟨#[99, 117, 112]⟩, ⟨#[112, 111, 117, 110, 100]⟩, ⟨#[115, 116, 111, 110, 101]⟩, ⟨#[98, 97, 108, 101]⟩]
theorem nmL_bd : ∀ s ∈ nmL, s.size ≤ 20 := by decide
def nm2 : List ByteArray := [⟨#[]⟩, ⟨#[65]⟩, ⟨#[103, 114, 97, 105, 110]⟩, ⟨#[97, 98, 99, 100, 101, 102, 103, 104, 105, 106, 107]⟩]
theorem nm2_bd : ∀ s ∈ nm2, s.size ≤ 20 := by decide
def szL : List Int := [2, 12, 16, 100]
def szM : List Int := [0, 1, 101]
/-- a system in the making beside a cursor and a list of names. -/
structure Ud (w wr : World) (lo g Bq : Nat) (A : Option Addr) (c : Nat) (l : List M.Unit) : Prop where
  row : K.Row wr w.heap.size 74 2 A l.length c (l.flatMap M.unitCells)
  cg : Cg w wr lo g Bq
  nm : ∀ u ∈ l, u.name.size ≤ 20
  nr : K.Rd wr 1 (some ⟨w.heap.size + 1, 0, none⟩) nmL.length (nmL.map Value.string)
  na : K.blk A ≠ some (w.heap.size + 1)
  sz : w.heap.size + 1 + 1 ≤ wr.heap.size
section
variable {w wr w2 : World} {lo g Bq : Nat} {A : Option Addr} {c : Nat} {l : List M.Unit}
theorem Ud.start (h : K.Cur w lo g Bq) : Ud w ((w.alloc (.cells #[.string ⟨#[103, 114, 97, 105, 110]⟩, .int .i64 1] 74)).alloc (.cells #[.string ⟨#[99, 117, 112]⟩, .string ⟨#[112, 111, 117, 110, 100]⟩, .string ⟨#[115, 116, 111, 110, 101]⟩, .string ⟨#[98, 97, 108, 101]⟩] 9)) lo g Bq (some ⟨w.heap.size, 0, none⟩) 1 [⟨⟨#[103, 114, 97, 105, 110]⟩, 1⟩] :=
  ⟨(row_one w _ _).alloc _, ((Cg.start h).alloc _).alloc _, (by decide), (by have h := K.Rd.new (w.alloc (.cells #[.string ⟨#[103, 114, 97, 105, 110]⟩, .int .i64 1] 74)) #[.string ⟨#[99, 117, 112]⟩, .string ⟨#[112, 111, 117, 110, 100]⟩, .string ⟨#[115, 116, 111, 110, 101]⟩, .string ⟨#[98, 97, 108, 101]⟩] 9 4 1 rfl; rw [World.size_alloc] at h; exact h), (by simp [K.blk]), by simp⟩
theorem Ud.alloc (F : Ud w wr lo g Bq A c l) (o : Obj) : Ud w (wr.alloc o) lo g Bq A c l := ⟨F.row.alloc o, F.cg.alloc o, F.nm, F.nr.alloc o, F.na, by have := F.sz; simp only [World.size_alloc]; omega⟩
theorem Ud.drew (F : Ud w wr lo g Bq A c l) : Ud w wr.drew lo g Bq A c l := ⟨F.row.drew, ⟨F.cg.cur.drew, K.grown_trans F.cg.gro (K.grown_below (Below.refl _ _).drew _), F.cg.glt⟩, F.nm, F.nr.drewN 1, F.na, F.sz⟩
theorem Ud.went {n : Nat} (F : Ud w wr lo g Bq A c l) (h : K.Went wr lo g Bq n w2) : Ud w w2 lo g (Bq + n) A c l :=
  ⟨F.row.kept h.2 (fun q hq e => by injection e with e; have := (F.row.lt q hq).1; have := F.cg.glt; omega), F.cg.went h, F.nm, F.nr.kept h.2 (fun q hq e => by simp [K.blk] at hq; injection e with e; have := F.cg.glt; omega), F.na, Nat.le_trans F.sz h.2.size⟩
theorem Ud.more {Bq' : Nat} (F : Ud w wr lo g Bq A c l) (h : Bq ≤ Bq') : Ud w wr lo g Bq' A c l := ⟨F.row, ⟨F.cg.cur.mono h, F.cg.gro, F.cg.glt⟩, F.nm, F.nr, F.na, F.sz⟩
theorem Ud.name (F : Ud w wr lo g Bq A c l) {k : Nat} (hk : k < nmL.length) : wr.cell? ⟨w.heap.size + 1, k, none⟩ = some (.string nmL[k]) := by
  obtain ⟨q, o, e, h⟩ := F.nr.str hk
  injection e with e
  injection e with e1 e2
  subst e1 e2
  rw [Nat.zero_add] at h
  exact h
theorem Ud.push (F : Ud w wr lo g Bq A c l) {s : ByteArray} {z : Int} {A' : Option Addr} {c' : Nat} (hs : s.size ≤ 20) (hr : K.Row w2 w.heap.size 74 2 A' (l.length + 1) c' (l.flatMap M.unitCells ++ [.string s, .int .i64 z])) (hg : wr.grownBy w2 (K.blk A)) (hat : ∀ q, K.blk A' = some q → K.blk A = some q ∨ wr.heap.size ≤ q) :
    Ud w w2 lo g Bq A' c' (l ++ [⟨s, z⟩]) :=
  ⟨by rw [List.flatMap_append, List.length_append]; simpa [M.unitCells] using hr, F.cg.grownN hg (fun q hq => (F.row.lt q hq).1), (fun u hu => by rcases List.mem_append.1 hu with h | h; exact F.nm u h; rw [List.mem_singleton.1 h]; exact hs),
    F.nr.kept hg (fun q hq e => by simp [K.blk] at hq; subst hq; exact F.na e), (fun e => by rcases hat _ e with h | h; exact F.na h; have := F.sz; omega), Nat.le_trans F.sz hg.size⟩
/-- a store into another block that is not old. -/
theorem Ud.set (F : Ud w wr lo g Bq A c l) {p : Addr} (hp : w.heap.size + 1 < p.block) (hA : K.blk A ≠ some p.block) (u : Value) : Ud w (wr.setCell p u) lo g Bq A c l :=
  ⟨F.row.setNe (fun q hq e => hA (by rw [hq, e])) u, F.cg.set (by omega) u, F.nm, F.nr.setOther (fun q hq e => by simp [K.blk] at hq; omega) u, F.na, by have := F.sz; simp only [World.size_setCell]; exact this⟩
/-- a unit of the system is replaced: what the draw leaves. -/
theorem Ud.fin {B0 n q p : Nat} {s : ByteArray} {z : Int} (F : Ud w wr lo g Bq (some ⟨q, 0, none⟩) c l) (hB : Bq ≤ B0 + n) (hp : p < l.length) (hs : s.size ≤ 20) :
    (∀ u ∈ l.set p ⟨s, z⟩, u.name.size ≤ 20) ∧ K.Rd ((wr.setCell ⟨q, p * 2, none⟩ (.string s)).setCell ⟨q, p * 2 + 1, none⟩ (.int .i64 z)) 2 (some ⟨q, 0, none⟩) l.length ((l.set p ⟨s, z⟩).flatMap M.unitCells) ∧ w.heap.size ≤ q ∧ K.Went w lo g B0 n ((wr.setCell ⟨q, p * 2, none⟩ (.string s)).setCell ⟨q, p * 2 + 1, none⟩ (.int .i64 z)) := by
  have hr := (F.row.set2 (p * 2) (.string s) (.int .i64 z)).1
  rw [unit_set l p hp s z] at hr
  have hq := (F.row.lt q rfl).1
  refine ⟨fun u hu => ?_, hr.rd, hq, ((F.cg.set (p := ⟨q, p * 2, none⟩) hq (.string s)).set (p := ⟨q, p * 2 + 1, none⟩) hq (.int .i64 z)).fin hB⟩
  rcases List.mem_or_eq_of_mem_set hu with h | h
  · exact F.nm u h
  · rw [h]; exact hs
end
set_option maxRecDepth 100000 in
set_option maxHeartbeats 8000000 in
theorem system7 (w : World) (lo g B : Nat) (h : K.Cur w lo g B) (hB : B ≤ 1000000) :
    Calls Try.prog 79 #[.pointer (some ⟨g, 0, none⟩)] w fun e w' => ∃ (A : Option Addr) (c : Nat) (l : List M.Unit), e = .returned (.slice A l.length c) ∧ l.length ≤ 8 ∧ (∀ u ∈ l, u.name.size ≤ 20) ∧ l.length ≤ c ∧ c ≤ 9223372036854775807 ∧ K.Rd w' 2 A l.length (l.flatMap M.unitCells) ∧ (∀ q, K.blk A = some q → w.heap.size ≤ q) ∧ K.Went w lo g B 100 w' := by
  obtain ⟨i0, hi0, hz0, hz1, hz2⟩ := info_parts Units.info
  have hF := Lib.hid (Ud.start h)
  clear h
  go_enter Try.func79, Try.ntmps79
  go_upto_block 0 with fail
  go_cut [3] (fun o wx => ∃ (A : Option Addr) (c : Nat) (l : List M.Unit), o = .slice A l.length c ∧ 1 ≤ l.length ∧ l.length ≤ 5 ∧ Ud w wx lo g (B + 20) A c l)
  case first =>
    go_wp2_with fail
    go_loopw [3, 5] (fun o i wr => ∃ (m : Nat) (A : Option Addr) (c : Nat) (l : List M.Unit), m ≤ 4 ∧ i = .int .i64 (m : Int) ∧ o = .slice A (m + 1) c ∧ Hid (l.length = m + 1) ∧ Hid (Ud w wr lo g (B + 4 * m) A c l)) (fun _ i _ => 5 - (intOf i).toNat)
    case atStart => exact ⟨0, _, _, _, Nat.zero_le _, rfl, rfl, Lib.hid rfl, hF⟩
    case round =>
      clear hF
      obtain ⟨m, A, c, l, hm, rfl, rfl, HL, HF⟩ := hrel
      by_cases hlt : m < 4
      · have h1 : (m : Int) < 4 := by omega
        have h0 : (0 : Int) ≤ (m : Int) := by omega
        have hlm : m + 1 + 1 ≤ maxLen := by simp only [maxLen]; omega
        have hmn : m < nmL.length := hlt
        go_wp2_with fail
        refine (Cur.one _ lo g _ 3 HF.out.cg.cur (by omega)).mono ?_
        rintro e w2 ⟨b, rfl, q2⟩
        have G := Lib.hid (HF.out.went q2)
        clear q2 HF
        cases b with
        | true =>
          go_wp2_with fail
          go_meet
          exact ⟨A, c, l, by rw [HL.out], by rw [HL.out]; omega, by rw [HL.out]; omega, G.out.more (by omega)⟩
        | false =>
          go_upto_region 6 with fail
          obtain ⟨W6, hW6⟩ : ∃ X, X = World.drew w2 := ⟨_, rfl⟩
          have F0 := Lib.hid (show Ud w W6 lo g (B + 4 * m + 2) A c l by rw [hW6]; exact G.out.drew)
          have HNA := Lib.hid (fun (wx : World) (Bx : Nat) (h : Ud w wx lo g Bx A c l) => h.name hmn)
          have hsz20 := nmL_bd nmL[m] (List.getElem_mem hmn)
          generalize nmL[m] = s at *
          refine wp_region_held_drew (S := fun w' => w'.cell? ⟨w.heap.size + 1, m, none⟩ = some (.string s)) (by kernel_rfl) (by rw [← hW6]; exact HNA.out _ _ F0.out) (fun hHeld => ?_)
          rw [← hW6] at hHeld ⊢
          clear hW6 G
          refine K.takeL 0 (v := ?_) rfl (by kernel_rfl) (by kernel_rfl) (by kernel_rfl) (fun _ _ _ h => h) (Or.inl ⟨rfl, ?_⟩) (by assumption) ?_
          rotate_left
          · intro w hSw; (try dsimp only at hSw); first | (go_simp; done) | (go_simp; with_reducible rfl)
          simp only [Act.put, List.setIfInBounds_toArray, List.set_cons_zero, List.set_cons_succ]
          refine K.takeL 1 (v := ?_) rfl (by kernel_rfl) (by kernel_rfl) (by kernel_rfl) (fun _ _ _ h => h) (Or.inl ⟨rfl, ?_⟩) (by assumption) ?_
          rotate_left
          · intro w hSw; (try dsimp only at hSw); first | (go_simp; done) | (go_simp; with_reducible rfl)
          simp only [Act.put, List.setIfInBounds_toArray, List.set_cons_zero, List.set_cons_succ]
          refine K.takeL 2 (v := ?_) rfl (by kernel_rfl) (by kernel_rfl) (by kernel_rfl) (fun _ _ _ h => h) (Or.inl ⟨rfl, ?_⟩) (by assumption) ?_
          rotate_left
          · intro w hSw; (try dsimp only at hSw); first | (go_simp; done) | (go_simp; with_reducible rfl)
          simp only [Act.put, List.setIfInBounds_toArray, List.set_cons_zero, List.set_cons_succ]
          refine K.takeL 3 (v := ?_) rfl (by kernel_rfl) (by kernel_rfl) (by kernel_rfl) (fun _ _ _ h => h) (Or.inl ⟨rfl, ?_⟩) (by assumption) ?_
          rotate_left
          · intro w hSw; (try dsimp only at hSw); first | (go_simp; done) | (go_simp; with_reducible rfl)
          simp only [Act.put, List.setIfInBounds_toArray, List.set_cons_zero, List.set_cons_succ]
          refine K.takeL 4 (v := ?_) rfl (by kernel_rfl) (by kernel_rfl) (by kernel_rfl) (fun _ _ _ h => h) (Or.inl ⟨rfl, ?_⟩) (by assumption) ?_
          rotate_left
          · intro w hSw; (try dsimp only at hSw); first | (go_simp; done) | (go_simp; with_reducible rfl)
          simp only [Act.put, List.setIfInBounds_toArray, List.set_cons_zero, List.set_cons_succ]
          refine K.takeL 5 (v := ?_) rfl (by kernel_rfl) (by kernel_rfl) (by kernel_rfl) (fun _ _ _ h => h) (Or.inl ⟨rfl, ?_⟩) (by assumption) ?_
          rotate_left
          · intro w hSw; (try dsimp only at hSw); first | (go_simp; done) | (go_simp; with_reducible rfl)
          simp only [Act.put, List.setIfInBounds_toArray, List.set_cons_zero, List.set_cons_succ]
          refine K.consL 6 rfl (by kernel_rfl) (fun KK hK => ?_)
          go_simp
          have F1 := Lib.hid (F0.out.alloc (.cells #[.int .i64 2, .int .i64 12, .int .i64 16, .int .i64 100] 3))
          have rl := K.Rd.new W6 #[.int .i64 2, .int .i64 12, .int .i64 16, .int .i64 100] 3 4 1 rfl
          have hsz := F0.out.sz
          refine hK.out _ _ (HNA.out _ _ F1.out) (fun hHeld => ?_)
          clear hK KK
          try simp only [Act.put, List.setIfInBounds_toArray, List.set_cons_zero, List.set_cons_succ]
          refine K.consL 7 rfl (by kernel_rfl) (fun KK hK => ?_)
          go_simp
          refine (Cur.among _ lo g _ (some ⟨W6.heap.size, 0, none⟩) 4 szL F1.out.cg.cur (by omega) (by decide) rl (fun e => by simp [K.blk] at e; have := F0.out.cg.glt; omega)).mono ?_
          rintro e w3 ⟨x, rfl, hx, q3⟩
          go_wp2_with fail
          have F3 := Lib.hid (F1.out.went q3)
          refine hK.out _ _ (HNA.out _ _ F3.out) (fun hHeld => ?_)
          clear hK KK
          try simp only [Act.put, List.setIfInBounds_toArray, List.set_cons_zero, List.set_cons_succ]
          refine K.takeL 8 (v := ?_) rfl (by kernel_rfl) (by kernel_rfl) (by kernel_rfl) (fun _ _ _ h => h) (Or.inl ⟨rfl, ?_⟩) (by assumption) ?_
          rotate_left
          · intro w hSw; (try dsimp only at hSw); first | (go_simp; done) | (go_simp; with_reducible rfl)
          simp only [Act.put, List.setIfInBounds_toArray, List.set_cons_zero, List.set_cons_succ]
          refine K.consL 9 rfl (by kernel_rfl) (fun KK hK => ?_)
          go_simp
          have F4 := Lib.hid (F3.out.alloc (.cells #[.string s, .int .i64 x] 74))
          have rn := K.Rd.new w3 #[.string s, .int .i64 x] 74 1 2 rfl
          have hsz4 := F4.out.sz
          have hrow := F4.out.row
          rw [HL.out] at hrow
          refine hK.out _ _ (HNA.out _ _ F4.out) (fun hHeld => ?_)
          clear hK KK
          try simp only [Act.put, List.setIfInBounds_toArray, List.set_cons_zero, List.set_cons_succ]
          refine K.consL 10 rfl (by kernel_rfl) (fun KK hK => ?_)
          refine K.stepN (by rfl) (.tmp 22) (.tmp 31) _ (by rfl) w.heap.size _ i0 _ 2 24 Try.underlying28 hi0 hz0 hz1 hz2 rfl (by omega) A (m + 1) c _ (by rfl) hrow (some ⟨w3.heap.size, 0, none⟩) 1 1 #[.string s, .int .i64 x].toList (by rfl) rn (by simp [Value.oneCell']) hlm (by omega) (by omega) ?_
          intro A5 c5 w4 hrow4 hb4 hgr4 hat4
          have F5 := Lib.hid (F4.out.push hsz20 (by rw [HL.out]; exact hrow4) hgr4 (fun q hq => by rcases hat4 with h | h <;> rw [h] at hq; exact Or.inl hq; injection hq with hq; exact Or.inr (by omega)))
          skip
          refine hK.out _ _ (by have h := F4.out.nr; have hn := (HNA.out _ _ F4.out); exact (hgr4.cell hn (fun e => F4.out.na e.symm))) (fun hHeld => ?_)
          clear hK KK
          try simp only [Act.put, List.setIfInBounds_toArray, List.set_cons_zero, List.set_cons_succ]
          refine K.takeL 11 (v := ?_) rfl (by kernel_rfl) (by kernel_rfl) (by kernel_rfl) (fun _ _ _ h => h) (Or.inl ⟨rfl, ?_⟩) (by assumption) ?_
          rotate_left
          · intro w hSw; (try dsimp only at hSw); first | (go_simp; done) | (go_simp; with_reducible rfl)
          simp only [Act.put, List.setIfInBounds_toArray, List.set_cons_zero, List.set_cons_succ]
          refine wpAnyH_done (by kernel_rfl) ?_ _
          clear F0 F1 F3 F4 rl rn q3 hsz hsz4 hrow hrow4 hb4 hgr4 hat4 HNA
          go_wp2_with fail
          go_roundw
          case rel => exact ⟨m + 1, A5, c5, l ++ [⟨s, x⟩], by omega, by go_num, rfl, Lib.hid (by rw [List.length_append, HL.out]; rfl), Lib.hid (F5.out.more (by omega))⟩
          case measure => first | (simp [intOf]; done) | (simp [intOf]; omega)
      · obtain rfl : m = 4 := by omega
        have h1 : ¬ ((4 : Int) < 4) := by omega
        go_wp2_with fail
        go_meet
        exact ⟨A, c, l, by rw [HL.out], by rw [HL.out]; omega, by rw [HL.out]; omega, HF.out.more (by omega)⟩
  obtain ⟨A, c, l, rfl, hl1, hl5, G0⟩ := hcut
  rename World => wq
  have HF := Lib.hid G0
  clear G0 hF
  go_wp2_with fail
  refine (Cur.pick _ lo g _ l.length HF.out.cg.cur (by omega)).mono ?_
  rintro e w2 ⟨x, rfl, ⟨x0, x1⟩, q2⟩
  obtain ⟨p, rfl⟩ := Int.eq_ofNat_of_zero_le x0
  have hp : p < l.length := by omega
  have hp2 : (p : Int) < (l.length : Int) := by omega
  have hp0 : (0 : Int) ≤ (p : Int) := by omega
  have G := Lib.hid (HF.out.went q2)
  clear q2 HF x0 x1
  obtain ⟨qa, eA, hqa, hqb, _, c0, c1⟩ := G.out.row.unit hp
  subst eA
  have hn20 := G.out.nm _ (List.getElem_mem hp)
  generalize l[p].name = s at *
  generalize l[p].size = z at *
  obtain ⟨ob, ho⟩ : ∃ o : Obj, o = .cells #[.string s, .int .i64 z] 74 := ⟨_, rfl⟩
  have G2 := Lib.hid (G.out.alloc ob)
  have X2 := Lib.hid (show K.Own (w2.alloc ob) w2.heap.size [.string s, .int .i64 z] by rw [ho]; exact K.Own.new _ _ _)
  have hgl := G.out.cg.glt
  have hsz := G.out.sz
  subst ho
  clear G
  go_wp2_with fail
  refine (Cur.pick _ lo g _ 60 G2.out.cg.cur (by omega)).mono ?_
  rintro e w3 ⟨y, rfl, ⟨z0, z1⟩, q3⟩
  have G := Lib.hid (G2.out.went q3)
  have X := Lib.hid (X2.out.kept q3.2 (fun e => by injection e with e; omega))
  clear q3 G2 X2 c0 c1
  by_cases y0c : y = 0
  · have t0 : (y == 0) = true := by rw [beq_iff_eq]; omega
    clear z0 z1
    obtain ⟨b0, b1, _, _, _⟩ := X.out.c2
    have rl := Lib.hid (K.Rd.new w3 #[.string ⟨#[]⟩, .string ⟨#[65]⟩, .string ⟨#[103, 114, 97, 105, 110]⟩, .string ⟨#[97, 98, 99, 100, 101, 102, 103, 104, 105, 106, 107]⟩] 9 4 1 rfl)
    have hw3 : w2.heap.size < w3.heap.size := X.out.1.1
    go_wp2_with fail
    refine (Cur.of _ lo g _ (some ⟨w3.heap.size, 0, none⟩) 4 nm2 (G.out.cg.cur.alloc _) (by omega) (by decide) rl.out (fun e => by simp [K.blk] at e; omega)).mono ?_
    rintro e w4 ⟨x, rfl, hx, q4⟩
    clear b0 b1
    have G4 := Lib.hid ((G.out.alloc _).went q4)
    have X4 := Lib.hid ((X.out.alloc _).kept q4.2 (fun e => by injection e with e; omega))
    clear q4 rl
    have G5 := Lib.hid (G4.out.set (p := ⟨w2.heap.size, 0, none⟩) (by simp only; omega) (by simp [K.blk]; omega) (.string x))
    have X5 := Lib.hid (X4.out.set_ 0 (by simp) (.string x))
    obtain ⟨b0, b1, y0, y1, bg⟩ := X4.out.c2
    go_upto_region 19 with fail
    obtain ⟨V5, hV5⟩ : ∃ X, X = w4.setCell ⟨w2.heap.size, 0, none⟩ (.string x) := ⟨_, rfl⟩
    rw [← hV5] at G5 X5
    try rw [← hV5]
    clear hV5 b0 b1 y0 y1 bg G4 X4 G X
    replace X5 : Hid (K.Own V5 w2.heap.size [.string x, .int .i64 z]) := X5
    have hs5 := nm2_bd x hx
    obtain ⟨k0, k1, k2, k3, kg⟩ := X5.out.c2
    obtain ⟨_, eB, _, _, fz, d0, d1⟩ := G5.out.row.unit hp
    injection eB with eB
    injection eB with eB
    subst eB
    have f0 := fz (p * 2)
    have f1 := fz (p * 2 + 1)
    have hcap := G5.out.row.max.2
    have hcap2 := G5.out.row.cap
    have hfin := Lib.hid (G5.out.fin (B0 := B) (n := 100) (s := x) (z := z) (by omega) hp hs5)
    go_wp2_with fail
    go_ret
    exact ⟨some ⟨qa, 0, none⟩, c, l.set p ⟨x, z⟩, by rw [List.length_set]; rfl, by rw [List.length_set]; omega, hfin.out.1, by rw [List.length_set]; omega, hcap2, by rw [List.length_set]; exact hfin.out.2.1, (fun q hq => by simp [K.blk] at hq; have := hfin.out.2.2.1; omega), hfin.out.2.2.2⟩
  have t0 : (y == 0) = false := by rw [beq_eq_false_iff_ne]; omega
  by_cases y1c : y = 1
  · have t1 : (y == 1) = true := by rw [beq_iff_eq]; omega
    clear z0 z1
    obtain ⟨b0, b1, _, _, _⟩ := X.out.c2
    have rl := Lib.hid (K.Rd.new w3 #[.int .i64 0, .int .i64 1, .int .i64 101] 3 3 1 rfl)
    have hw3 : w2.heap.size < w3.heap.size := X.out.1.1
    go_wp2_with fail
    refine (Cur.among _ lo g _ (some ⟨w3.heap.size, 0, none⟩) 3 szM (G.out.cg.cur.alloc _) (by omega) (by decide) rl.out (fun e => by simp [K.blk] at e; omega)).mono ?_
    rintro e w4 ⟨x, rfl, hx, q4⟩
    clear b0 b1
    have G4 := Lib.hid ((G.out.alloc _).went q4)
    have X4 := Lib.hid ((X.out.alloc _).kept q4.2 (fun e => by injection e with e; omega))
    clear q4 rl
    have G5 := Lib.hid (G4.out.set (p := ⟨w2.heap.size, 1, none⟩) (by simp only; omega) (by simp [K.blk]; omega) (.int .i64 x))
    have X5 := Lib.hid (X4.out.set_ 1 (by simp) (.int .i64 x))
    obtain ⟨b0, b1, y0, y1, bg⟩ := X4.out.c2
    go_upto_region 19 with fail
    obtain ⟨V5, hV5⟩ : ∃ X, X = w4.setCell ⟨w2.heap.size, 1, none⟩ (.int .i64 x) := ⟨_, rfl⟩
    rw [← hV5] at G5 X5
    try rw [← hV5]
    clear hV5 b0 b1 y0 y1 bg G4 X4 G X
    replace X5 : Hid (K.Own V5 w2.heap.size [.string s, .int .i64 x]) := X5
    obtain ⟨k0, k1, k2, k3, kg⟩ := X5.out.c2
    obtain ⟨_, eB, _, _, fz, d0, d1⟩ := G5.out.row.unit hp
    injection eB with eB
    injection eB with eB
    subst eB
    have f0 := fz (p * 2)
    have f1 := fz (p * 2 + 1)
    have hcap := G5.out.row.max.2
    have hcap2 := G5.out.row.cap
    have hfin := Lib.hid (G5.out.fin (B0 := B) (n := 100) (s := s) (z := x) (by omega) hp hn20)
    go_wp2_with fail
    go_ret
    exact ⟨some ⟨qa, 0, none⟩, c, l.set p ⟨s, x⟩, by rw [List.length_set]; rfl, by rw [List.length_set]; omega, hfin.out.1, by rw [List.length_set]; omega, hcap2, by rw [List.length_set]; exact hfin.out.2.1, (fun q hq => by simp [K.blk] at hq; have := hfin.out.2.2.1; omega), hfin.out.2.2.2⟩
  have t1 : (y == 1) = false := by rw [beq_eq_false_iff_ne]; omega
  by_cases y2c : y = 2
  · have t2 : (y == 2) = true := by rw [beq_iff_eq]; omega
    clear z0 z1
    have hcv := fun (w : World) (x : Int) => K.conv1 (P := Try.prog) Try.underlying57 Try.underlying5 Try.underlying9 w x 5
    go_wp2_with fail
    go_loopw [3] (fun o wr => ∃ (A : Option Addr) (c n : Nat) (l : List M.Unit), o = .slice A n c ∧ Hid (l.length = n) ∧ n ≤ 7 ∧ p < n ∧ K.blk A ≠ some w2.heap.size ∧ Hid (Ud w wr lo g (B + 40 + 2 * n) A c l) ∧ Hid (K.Own wr w2.heap.size [.string s, .int .i64 z])) (fun o _ => match o with | .slice _ n _ => 9 - n | _ => 0)
    case atStart => exact ⟨_, _, _, l, rfl, Lib.hid rfl, by omega, hp, by simp [K.blk]; omega, Lib.hid (G.out.more (by omega)), X⟩
    case round =>
      clear G X hp hp2 hl1 hl5 hqa hqb
      obtain ⟨A, c, n, l, rfl, HL, hn7, hp, hA2, G, X⟩ := hrel
      have hp2 : (p : Int) < (n : Int) := by omega
      go_wp2_with fail
      refine (Cur.pick _ lo g _ 2 G.out.cg.cur (by omega)).mono ?_
      rintro e w4 ⟨x, rfl, ⟨x0, x1⟩, q4⟩
      have G4 := Lib.hid (G.out.went q4)
      have X4 := Lib.hid (X.out.kept q4.2 (fun e => by injection e with e; omega))
      clear q4 G X
      have hws : IntKind.i64.wrap (6 + x) = 6 + x := IntWalk.i64_in _ (by omega)
      by_cases hlt : (n : Int) < 6 + x
      · have hwa : IntKind.i64.wrap (97 + (n : Int)) = 97 + (n : Int) := IntWalk.i64_in _ (by omega)
        have hwb : IntKind.u8.wrap (97 + (n : Int)) = 97 + (n : Int) := by simp only [IntKind.wrap, IntKind.bits, IntKind.signed, Bool.false_and, if_neg (show ¬ (false = true) by simp)]; omega
        have hj : n + 1 ≤ maxLen := by simp only [maxLen]; omega
        have G5 := Lib.hid (G4.out.alloc (.cells #[.int .u8 (97 + (n : Int))] 5))
        have X5 := Lib.hid (X4.out.alloc (.cells #[.int .u8 (97 + (n : Int))] 5))
        have hsz5 := G5.out.cg.gro.size
        have hrow := G5.out.row
        rw [HL.out] at hrow
        have HROW := Lib.hid hrow
        clear hrow
        have hw4 := X4.out.1.1
        go_wp2_with (at_builtin; (refine K.append1 rfl (.tmp 63) (.tmp 71) _ rfl w.heap.size _ i0 _ 2 24 Try.underlying28 hi0 hz0 hz1 hz2 rfl (by omega) A n c _ rfl HROW.out #[.string ⟨#[97 + UInt8.ofNat n]⟩, .int .i64 2] rfl (by simp [Value.oneCell']) (by simp [go_sem]) hj (by omega) hsz5 ?_; intro g6 c6 w6 hrow6 hb6 hlo6 hat6 hg6))
        have G6 := Lib.hid (G5.out.push (s := ⟨#[97 + UInt8.ofNat n]⟩) (z := 2) (A' := some ⟨g6, 0, none⟩) (Nat.le_of_lt (by decide : (1 : Nat) < 20)) (by rw [HL.out]; exact hrow6) hg6 (fun q hq => by simp [K.blk] at hq; subst hq; exact hat6))
        have X6 := Lib.hid (X5.out.kept hg6 hA2)
        have hA6 : K.blk (some (⟨g6, 0, none⟩ : Addr)) ≠ some w2.heap.size := by intro h; simp [K.blk] at h; subst h; rcases hat6 with h | h; exact hA2 h; simp only [World.size_alloc] at h; omega
        clear HROW hrow6 hb6 hlo6 hat6 hg6 G4 G5 X4 X5
        go_roundw
        case rel => exact ⟨some ⟨g6, 0, none⟩, c6, n + 1, _, rfl, Lib.hid (by rw [List.length_append, HL.out]; rfl), by omega, by omega, hA6, Lib.hid (G6.out.more (by omega)), X6⟩
        case measure => first | (simp; done) | (simp; omega)
      · have hl5 : l.length ≤ 7 := by rw [HL.out]; exact hn7
        obtain rfl := HL.out
        clear HL
        obtain ⟨qa, eA, _, _, _, _, _⟩ := G4.out.row.unit hp
        subst eA
        obtain ⟨k0, k1, k2, k3, kg⟩ := X4.out.c2
        obtain ⟨_, eB, _, _, fz, d0, d1⟩ := G4.out.row.unit hp
        injection eB with eB
        injection eB with eB
        subst eB
        have f0 := fz (p * 2)
        have f1 := fz (p * 2 + 1)
        have hcap := G4.out.row.max.2
        have hcap2 := G4.out.row.cap
        have hfin := Lib.hid (G4.out.fin (B0 := B) (n := 100) (s := s) (z := z) (by omega) hp hn20)
        go_wp2_with fail
        go_ret
        exact ⟨some ⟨qa, 0, none⟩, c, l.set p ⟨s, z⟩, by rw [List.length_set]; rfl, by rw [List.length_set]; omega, hfin.out.1, by rw [List.length_set]; omega, hcap2, by rw [List.length_set]; exact hfin.out.2.1, (fun q hq => by simp [K.blk] at hq; have := hfin.out.2.2.1; omega), hfin.out.2.2.2⟩
  have t2 : (y == 2) = false := by rw [beq_eq_false_iff_ne]; omega
  by_cases y3c : y = 3
  · have t3 : (y == 3) = true := by rw [beq_iff_eq]; omega
    clear z0 z1
    have hcap := G.out.row.max.2
    have hcap2 := G.out.row.cap
    have hc0 : (0 : Int) ≤ (c : Int) := by omega
    have hql := (G.out.row.lt qa rfl).1
    go_wp2_with fail
    go_ret
    exact ⟨some ⟨qa, 0, none⟩, c, [], rfl, by simp, (fun u hu => by cases hu), by simp, hcap2, K.Rd.nil _ _ _, (fun q hq => by simp [K.blk] at hq; omega), G.out.cg.fin (by omega)⟩
  have t3 : (y == 3) = false := by rw [beq_eq_false_iff_ne]; omega
  clear z0 z1
  obtain ⟨k0, k1, k2, k3, kg⟩ := X.out.c2
  obtain ⟨_, eB, _, _, fz, d0, d1⟩ := G.out.row.unit hp
  injection eB with eB
  injection eB with eB
  subst eB
  have f0 := fz (p * 2)
  have f1 := fz (p * 2 + 1)
  have hcap := G.out.row.max.2
  have hcap2 := G.out.row.cap
  have hfin := Lib.hid (G.out.fin (B0 := B) (n := 100) (s := s) (z := z) (by omega) hp hn20)
  go_wp2_with fail
  go_ret
  exact ⟨some ⟨qa, 0, none⟩, c, l.set p ⟨s, z⟩, by rw [List.length_set]; rfl, by rw [List.length_set]; omega, hfin.out.1, by rw [List.length_set]; omega, hcap2, by rw [List.length_set]; exact hfin.out.2.1, (fun q hq => by simp [K.blk] at hq; have := hfin.out.2.2.1; omega), hfin.out.2.2.2⟩
end Go.Proofs.Ytfgnmjnlhnpmoaa.MeasD
