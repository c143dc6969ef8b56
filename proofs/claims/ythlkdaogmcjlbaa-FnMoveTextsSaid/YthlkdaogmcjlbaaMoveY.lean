/-
  Walks: what the law on moves' texts draws (printed by gen_mdraws.py).
-/
import Derived.Test.YthlkdaogmcjlbaaMoveK
import Derived.Test.YthlkdaogmcjlbaaMoveS
import Derived.Test.YthlkdaogmcjlbaaMoveU
set_option linter.unusedVariables false
namespace Go.Proofs.Ythlkdaogmcjlbaa.MoveD
open Go.RowKit
def RetM (w : World) (e : Ending) (w' : World) : Prop := ∃ (A : Option Addr) (c : Nat) (ms : List M.Move), e = .returned (.slice A ms.length c) ∧ ms.length ≤ 63 ∧ K.Rd w' 3 A ms.length (ms.flatMap M.moveCells) ∧ Below w.heap.size w w'
def RetMI (w : World) (e : Ending) (w' : World) : Prop := ∃ (A : Option Addr) (c : Nat) (ms : List M.Move) (v : Int), e = .returned (.tuple #[.slice A ms.length c, .int .i64 v]) ∧ ms.length ≤ 63 ∧ 0 ≤ v ∧ v ≤ 9 ∧ K.Rd w' 3 A ms.length (ms.flatMap M.moveCells) ∧ Below w.heap.size w w'
def RetT (w : World) (e : Ending) (w' : World) : Prop := ∃ s : ByteArray, e = .returned (.string s) ∧ s.size ≤ 1048576 ∧ Below w.heap.size w w'
theorem txt_size {ms : List M.Move} (h : M.movesOk ms = true) : ms.length ≤ 60 ∧ (∀ m ∈ ms, m.ok = true) ∧ (M.movesTxt ms).size ≤ 300 := by
  obtain ⟨h1, h2⟩ := (M.movesOk_iff ms).1 h
  refine ⟨h1, h2, ?_⟩
  have hz := M.movesTxt_size h2 ms.length (Nat.le_refl _)
  rw [List.take_of_length_le (by simp)] at hz
  show (M.jn ⟨#[32]⟩ (ms.map M.mvTxt)).size ≤ 300
  omega
theorem rdmv_lt {w : World} {A : Option Addr} {l : List M.Move} (h : K.Rd w 3 A l.length (l.flatMap M.moveCells)) (hn : 0 < l.length) : ∀ q, K.blk A = some q → q < w.heap.size := by
  intro q hq
  obtain ⟨q2, o2, e2, h2, _⟩ := h.move hn
  rw [e2] at hq
  have : q2 = q := Option.some.inj hq
  omega
set_option maxRecDepth 100000 in
set_option maxHeartbeats 2000000 in
theorem undo (A : Option Addr) (c : Nat) (l : List UInt8) (w : World) (hl : l.length ≤ 65536) (ha : K.Rd w 1 A l.length (l.map fun b => Value.int .u8 (b.toNat : Int))) :
    Calls Try.prog 78 #[.slice A l.length c] w (RetM w) := by
  have C : Hid (K.Cur (w.alloc (.cells #[.slice A l.length c, .int .i64 0, .int .u64 0] 88)) w.heap.size w.heap.size 0) := Lib.hid (K.Cur.new (c := c) ha hl 88)
  have BB : Hid (Below w.heap.size w (w.alloc (.cells #[.slice A l.length c, .int .i64 0, .int .u64 0] 88))) := Lib.hid ((Below.refl _ _).alloc (Nat.le_refl _) _)
  have hz0 : w.heap.size + 1 ≤ (w.alloc (.cells #[.slice A l.length c, .int .i64 0, .int .u64 0] 88)).heap.size := by simp
  clear ha
  go_enter Try.func78, Try.ntmps78
  go_wp2_with fail
  refine (frame _ _ _ _ C.out (by omega)).mono ?_
  rintro e w1 ⟨A1, c1, f, rfl, hf9, hr, hfA, q1⟩
  have hz1 : w.heap.size + 1 ≤ w1.heap.size := by have := q1.2.size; omega
  replace BB := Lib.hid (BB.out.trans (q1.below (b := w.heap.size) (by omega) (by omega)))
  replace C := Lib.hid q1.1
  clear q1
  go_wp2_with fail
  refine (beads f A1 c1 _ _ _ _ C.out (by omega) (by omega) hr (fun hn q hq => by have := hfA q hq; omega)).mono ?_
  rintro e w2 ⟨A2, c2, ms, rfl, hms, hrow, q2⟩
  have hz2 : w.heap.size + 1 ≤ w2.heap.size := by have := q2.2.size; omega
  replace BB := Lib.hid (BB.out.trans (q2.below (b := w.heap.size) (by omega) (by omega)))
  replace C := Lib.hid q2.1
  clear q2 hr hfA
  go_wp2_with fail
  go_ret
  exact ⟨A2, c2, ms, rfl, by omega, hrow.rd, BB.out⟩
set_option maxRecDepth 100000 in
set_option maxHeartbeats 2000000 in
theorem text (A : Option Addr) (c : Nat) (l : List UInt8) (w : World) (hl : l.length ≤ 65536) (ha : K.Rd w 1 A l.length (l.map fun b => Value.int .u8 (b.toNat : Int))) :
    Calls Try.prog 34 #[.slice A l.length c] w (RetM w) := by
  go_enter Try.func34, Try.ntmps34
  go_wp2_with fail
  refine (undo A c l w hl ha).mono ?_
  rintro e w1 ⟨A2, c2, ms, rfl, hms, hrow, bb⟩
  go_wp2_with fail
  go_ret
  exact ⟨A2, c2, ms, rfl, hms, hrow, bb⟩
set_option maxRecDepth 100000 in
set_option maxHeartbeats 2000000 in
theorem beadsof (A : Option Addr) (c : Nat) (l : List UInt8) (w : World) (hl : l.length ≤ 65536) (ha : K.Rd w 1 A l.length (l.map fun b => Value.int .u8 (b.toNat : Int))) :
    Calls Try.prog 47 #[.slice A l.length c] w (RetM w) := by
  go_enter Try.func47, Try.ntmps47
  go_wp2_with fail
  refine (undo A c l w hl ha).mono ?_
  rintro e w1 ⟨A2, c2, ms, rfl, hms, hrow, bb⟩
  go_wp2_with fail
  go_ret
  exact ⟨A2, c2, ms, rfl, hms, hrow, bb⟩
set_option maxRecDepth 100000 in
set_option maxHeartbeats 2000000 in
theorem change (A : Option Addr) (c : Nat) (l : List UInt8) (w : World) (hl : l.length ≤ 65536) (ha : K.Rd w 1 A l.length (l.map fun b => Value.int .u8 (b.toNat : Int))) :
    Calls Try.prog 45 #[.slice A l.length c] w (RetMI w) := by
  have C : Hid (K.Cur (w.alloc (.cells #[.slice A l.length c, .int .i64 0, .int .u64 0] 88)) w.heap.size w.heap.size 0) := Lib.hid (K.Cur.new (c := c) ha hl 88)
  have BB : Hid (Below w.heap.size w (w.alloc (.cells #[.slice A l.length c, .int .i64 0, .int .u64 0] 88))) := Lib.hid ((Below.refl _ _).alloc (Nat.le_refl _) _)
  have hz0 : w.heap.size + 1 ≤ (w.alloc (.cells #[.slice A l.length c, .int .i64 0, .int .u64 0] 88)).heap.size := by simp
  clear ha
  go_enter Try.func45, Try.ntmps45
  go_wp2_with fail
  refine (frame _ _ _ _ C.out (by omega)).mono ?_
  rintro e w1 ⟨A1, c1, f, rfl, hf9, hr, hfA, q1⟩
  have hz1 : w.heap.size + 1 ≤ w1.heap.size := by have := q1.2.size; omega
  replace BB := Lib.hid (BB.out.trans (q1.below (b := w.heap.size) (by omega) (by omega)))
  replace C := Lib.hid q1.1
  clear q1
  have X := Lib.hid (K.Box.new w1 #[.int .i64 f.upper, .int .i64 f.lower, .slice A1 f.rods.length c1] 33)
  replace C := Lib.hid (C.out.alloc (.cells #[.int .i64 f.upper, .int .i64 f.lower, .slice A1 f.rods.length c1] 33))
  replace hr := Lib.hid (hr.alloc (.cells #[.int .i64 f.upper, .int .i64 f.lower, .slice A1 f.rods.length c1] 33))
  replace BB := Lib.hid (BB.out.alloc (by omega) (.cells #[.int .i64 f.upper, .int .i64 f.lower, .slice A1 f.rods.length c1] 33))
  go_upto_region 3 with fail
  obtain ⟨W0, hW0⟩ : ∃ X, X = World.drew (World.alloc w1 (.cells #[.int .i64 f.upper, .int .i64 f.lower, .slice A1 f.rods.length c1] 33)) := ⟨_, rfl⟩
  replace X := Lib.hid (show K.Box W0 w1.heap.size _ by rw [hW0]; exact X.out.drew)
  replace C := Lib.hid (show K.Cur W0 w.heap.size w.heap.size _ by rw [hW0]; exact C.out.drew)
  replace hr := Lib.hid (show K.Rd W0 2 A1 f.rods.length _ by rw [hW0]; exact hr.out.drewN 1)
  replace BB := Lib.hid (show Below w.heap.size w W0 by rw [hW0]; exact BB.out.drew)
  have hzw : w.heap.size + 1 ≤ W0.heap.size := by have := X.out.1; omega
  have hfA2 : ∀ q, K.blk A1 = some q → q ≠ w.heap.size := fun q hq => by have := hfA q hq; omega
  clear hfA
  refine wp_region_held_drew (S := fun w' => w'.cell? ⟨w1.heap.size, 0, none⟩ = some (.int .i64 f.upper) ∧ w'.cell? ⟨w1.heap.size, 1, none⟩ = some (.int .i64 f.lower) ∧ w'.cell? ⟨w1.heap.size, 2, none⟩ = some (.slice A1 f.rods.length c1)) (by kernel_rfl) (by rw [← hW0]; exact X.out.c3) (fun hHeld => ?_)
  rw [← hW0] at hHeld ⊢
  clear hW0
  refine K.takeL 0 (v := ?_) rfl (by kernel_rfl) (by kernel_rfl) (by kernel_rfl) (fun _ _ _ h => h) (Or.inl ⟨rfl, ?_⟩) (by assumption) ?_
  rotate_left
  · intro w hSw; (try dsimp only at hSw); first | (go_simp; done) | (go_simp; with_reducible rfl)
  simp only [Act.put, List.setIfInBounds_toArray, List.set_cons_zero, List.set_cons_succ]
  refine K.takeL 1 (v := ?_) rfl (by kernel_rfl) (by kernel_rfl) (by kernel_rfl) (fun _ _ _ h => h) (Or.inl ⟨rfl, ?_⟩) (by assumption) ?_
  rotate_left
  · intro w hSw; (try dsimp only at hSw); first | (go_simp; done) | (go_simp; with_reducible rfl)
  simp only [Act.put, List.setIfInBounds_toArray, List.set_cons_zero, List.set_cons_succ]
  refine K.takeL 3 (v := ?_) rfl (by kernel_rfl) (by kernel_rfl) (by kernel_rfl) (fun _ _ _ h => h) (Or.inl ⟨rfl, ?_⟩) (by assumption) ?_
  rotate_left
  · intro w hSw; (try dsimp only at hSw); first | (go_simp; done) | (go_simp; with_reducible rfl)
  simp only [Act.put, List.setIfInBounds_toArray, List.set_cons_zero, List.set_cons_succ]
  refine K.takeL 4 (v := ?_) rfl (by kernel_rfl) (by kernel_rfl) (by kernel_rfl) (fun _ _ _ h => h) (Or.inl ⟨rfl, ?_⟩) (by assumption) ?_
  rotate_left
  · intro w hSw; (try dsimp only at hSw); first | (go_simp; done) | (go_simp; with_reducible rfl)
  simp only [Act.put, List.setIfInBounds_toArray, List.set_cons_zero, List.set_cons_succ]
  refine K.takeL 5 (v := ?_) rfl (by kernel_rfl) (by kernel_rfl) (by kernel_rfl) (fun _ _ _ h => h) (Or.inl ⟨rfl, ?_⟩) (by assumption) ?_
  rotate_left
  · intro w hSw; (try dsimp only at hSw); first | (go_simp; done) | (go_simp; with_reducible rfl)
  simp only [Act.put, List.setIfInBounds_toArray, List.set_cons_zero, List.set_cons_succ]
  refine K.takeL 6 (v := ?_) rfl (by kernel_rfl) (by kernel_rfl) (by kernel_rfl) (fun _ _ _ h => h) (Or.inl ⟨rfl, ?_⟩) (by assumption) ?_
  rotate_left
  · intro w hSw; (try dsimp only at hSw); first | (go_simp; done) | (go_simp; with_reducible rfl)
  simp only [Act.put, List.setIfInBounds_toArray, List.set_cons_zero, List.set_cons_succ]
  refine K.takeL 7 (v := ?_) rfl (by kernel_rfl) (by kernel_rfl) (by kernel_rfl) (fun _ _ _ h => h) (Or.inl ⟨rfl, ?_⟩) (by assumption) ?_
  rotate_left
  · intro w hSw; (try dsimp only at hSw); first | (go_simp; done) | (go_simp; with_reducible rfl)
  simp only [Act.put, List.setIfInBounds_toArray, List.set_cons_zero, List.set_cons_succ]
  refine K.takeL 8 (v := ?_) rfl (by kernel_rfl) (by kernel_rfl) (by kernel_rfl) (fun _ _ _ h => h) (Or.inl ⟨rfl, ?_⟩) (by assumption) ?_
  rotate_left
  · intro w hSw; (try dsimp only at hSw); first | (go_simp; done) | (go_simp; with_reducible rfl)
  simp only [Act.put, List.setIfInBounds_toArray, List.set_cons_zero, List.set_cons_succ]
  refine K.takeL 9 (v := ?_) rfl (by kernel_rfl) (by kernel_rfl) (by kernel_rfl) (fun _ _ _ h => h) (Or.inl ⟨rfl, ?_⟩) (by assumption) ?_
  rotate_left
  · intro w hSw; (try dsimp only at hSw); first | (go_simp; done) | (go_simp; with_reducible rfl)
  simp only [Act.put, List.setIfInBounds_toArray, List.set_cons_zero, List.set_cons_succ]
  refine wpAnyH_ready (rs := [2, 10]) (by kernel_rfl) (by simp) (AllReadyH.cons (by rfl) (fun KK hK => ?_) (AllReadyH.cons (by rfl) (fun KK hK => ?_) AllReadyH.nil))
  · skip
    obtain ⟨b0, b1, b2⟩ := X.out.c3
    go_simp
    clear b0 b1 b2
    refine (beads f A1 c1 _ _ _ _ C.out (by omega) (by omega) hr.out (fun hn q hq => hfA2 q hq)).mono ?_
    rintro e w2 ⟨A2, c2, ms, rfl, hms, hrow0, q2⟩
    go_wp2_with fail
    have hrl := (fun q hq => (hrow0.lt q hq).1)
    have hro : ∀ q, K.blk A2 = some q → w.heap.size ≠ q := fun q hq => by have := hrl q hq; omega
    have hrow := Lib.hid hrow0.rd
    clear hrow0 hrl
    have hz2 : w.heap.size + 1 ≤ w2.heap.size := by have := q2.2.size; omega
    replace BB := Lib.hid (BB.out.trans (q2.below (b := w.heap.size) (by omega) (by omega)))
    replace C := Lib.hid q2.1
    replace X := Lib.hid (X.out.kept q2.2 (fun e => by injection e with e; omega))
    replace hr := Lib.hid (hr.out.kept q2.2 (fun q hq e => hfA2 q hq (Option.some.inj e).symm))
    clear q2
    refine hK.out _ _ X.out.c3 (fun hHeld => ?_)
    clear hK KK
    try simp only [Act.put, List.setIfInBounds_toArray, List.set_cons_zero, List.set_cons_succ]
    refine K.consL 10 rfl (by kernel_rfl) (fun KK hK => ?_)
    go_simp
    have rl := Lib.hid (K.Rd.new w2 #[.int .i64 (f.rods.length : Int), .int .i64 (f.rods.length : Int), .int .i64 1, .int .i64 8, .int .i64 0, .int .i64 9] 3 6 1 rfl)
    have hlb : w.heap.size ≠ w2.heap.size := by omega
    have hba := w2.heap.size
    replace X := Lib.hid (X.out.alloc (.cells #[.int .i64 (f.rods.length : Int), .int .i64 (f.rods.length : Int), .int .i64 1, .int .i64 8, .int .i64 0, .int .i64 9] 3))
    replace C := Lib.hid (C.out.alloc (.cells #[.int .i64 (f.rods.length : Int), .int .i64 (f.rods.length : Int), .int .i64 1, .int .i64 8, .int .i64 0, .int .i64 9] 3))
    replace BB := Lib.hid (BB.out.alloc (by omega) (.cells #[.int .i64 (f.rods.length : Int), .int .i64 (f.rods.length : Int), .int .i64 1, .int .i64 8, .int .i64 0, .int .i64 9] 3))
    replace hr := Lib.hid (hr.out.alloc (.cells #[.int .i64 (f.rods.length : Int), .int .i64 (f.rods.length : Int), .int .i64 1, .int .i64 8, .int .i64 0, .int .i64 9] 3))
    replace hrow := Lib.hid (hrow.out.alloc (.cells #[.int .i64 (f.rods.length : Int), .int .i64 (f.rods.length : Int), .int .i64 1, .int .i64 8, .int .i64 0, .int .i64 9] 3))
    clear hba
    obtain ⟨V, hV⟩ : ∃ X, X = w2.alloc (.cells #[.int .i64 (f.rods.length : Int), .int .i64 (f.rods.length : Int), .int .i64 1, .int .i64 8, .int .i64 0, .int .i64 9] 3) := ⟨_, rfl⟩
    rw [← hV] at X
    rw [← hV] at C
    rw [← hV] at BB
    rw [← hV] at rl
    rw [← hV] at hr
    rw [← hV] at hrow
    have hzV : w.heap.size + 1 ≤ V.heap.size := by rw [hV]; simp; omega
    refine hK.out _ _ (by rw [← hV]; exact X.out.c3) (fun hHeld => ?_)
    clear hK KK
    try simp only [Act.put, List.setIfInBounds_toArray, List.set_cons_zero, List.set_cons_succ]
    rw [← hV] at hHeld ⊢
    clear hV
    refine K.consL 11 rfl (by kernel_rfl) (fun KK hK => ?_)
    go_simp
    refine (Cur.among _ _ _ _ (some ⟨w2.heap.size, 0, none⟩) 6 [(f.rods.length : Int), (f.rods.length : Int), 1, 8, 0, 9] C.out (by omega) (by simp) rl.out (fun e => hlb (Option.some.inj e).symm)).mono ?_
    rintro e w3 ⟨v, rfl, hv, q3⟩
    go_wp2_with fail
    have hz3 : w.heap.size + 1 ≤ w3.heap.size := by have := q3.2.size; omega
    replace BB := Lib.hid (BB.out.trans (q3.below (b := w.heap.size) (by omega) (by omega)))
    replace C := Lib.hid q3.1
    replace X := Lib.hid (X.out.kept q3.2 (fun e => by injection e with e; omega))
    replace rl := Lib.hid (rl.out.kept q3.2 (fun q hq e => hlb ((Option.some.inj e).trans (Option.some.inj hq).symm)))
    replace hr := Lib.hid (hr.out.kept q3.2 (fun q hq e => hfA2 q hq (Option.some.inj e).symm))
    replace hrow := Lib.hid (hrow.out.kept q3.2 (fun q hq e => hro q hq (Option.some.inj e)))
    clear q3
    refine hK.out _ _ X.out.c3 (fun hHeld => ?_)
    clear hK KK
    try simp only [Act.put, List.setIfInBounds_toArray, List.set_cons_zero, List.set_cons_succ]
    refine K.takeL 12 (v := ?_) rfl (by kernel_rfl) (by kernel_rfl) (by kernel_rfl) (fun _ _ _ h => h) (Or.inl ⟨rfl, ?_⟩) (by assumption) ?_
    rotate_left
    · intro w hSw; (try dsimp only at hSw); first | (go_simp; done) | (go_simp; with_reducible rfl)
    simp only [Act.put, List.setIfInBounds_toArray, List.set_cons_zero, List.set_cons_succ]
    refine K.takeL 13 (v := ?_) rfl (by kernel_rfl) (by kernel_rfl) (by kernel_rfl) (fun _ _ _ h => h) (Or.inl ⟨rfl, ?_⟩) (by assumption) ?_
    rotate_left
    · intro w hSw; (try dsimp only at hSw); first | (go_simp; done) | (go_simp; with_reducible rfl)
    simp only [Act.put, List.setIfInBounds_toArray, List.set_cons_zero, List.set_cons_succ]
    refine wpAnyH_done (by kernel_rfl) ?_ _
    have hv9 : 0 ≤ v ∧ v ≤ 9 := by simp only [List.mem_cons, List.not_mem_nil, or_false] at hv; omega
    go_wp2_with fail
    go_ret2
    exact ⟨A2, c2, ms, v, rfl, by omega, hv9.1, hv9.2, hrow.out, BB.out⟩
  · skip
    go_simp
    have rl := Lib.hid (K.Rd.new W0 #[.int .i64 (f.rods.length : Int), .int .i64 (f.rods.length : Int), .int .i64 1, .int .i64 8, .int .i64 0, .int .i64 9] 3 6 1 rfl)
    have hlb : w.heap.size ≠ W0.heap.size := by omega
    have hba := W0.heap.size
    replace X := Lib.hid (X.out.alloc (.cells #[.int .i64 (f.rods.length : Int), .int .i64 (f.rods.length : Int), .int .i64 1, .int .i64 8, .int .i64 0, .int .i64 9] 3))
    replace C := Lib.hid (C.out.alloc (.cells #[.int .i64 (f.rods.length : Int), .int .i64 (f.rods.length : Int), .int .i64 1, .int .i64 8, .int .i64 0, .int .i64 9] 3))
    replace BB := Lib.hid (BB.out.alloc (by omega) (.cells #[.int .i64 (f.rods.length : Int), .int .i64 (f.rods.length : Int), .int .i64 1, .int .i64 8, .int .i64 0, .int .i64 9] 3))
    replace hr := Lib.hid (hr.out.alloc (.cells #[.int .i64 (f.rods.length : Int), .int .i64 (f.rods.length : Int), .int .i64 1, .int .i64 8, .int .i64 0, .int .i64 9] 3))
    clear hba
    obtain ⟨V, hV⟩ : ∃ X, X = W0.alloc (.cells #[.int .i64 (f.rods.length : Int), .int .i64 (f.rods.length : Int), .int .i64 1, .int .i64 8, .int .i64 0, .int .i64 9] 3) := ⟨_, rfl⟩
    rw [← hV] at X
    rw [← hV] at C
    rw [← hV] at BB
    rw [← hV] at rl
    rw [← hV] at hr
    have hzV : w.heap.size + 1 ≤ V.heap.size := by rw [hV]; simp; omega
    refine hK.out _ _ (by rw [← hV]; exact X.out.c3) (fun hHeld => ?_)
    clear hK KK
    try simp only [Act.put, List.setIfInBounds_toArray, List.set_cons_zero, List.set_cons_succ]
    rw [← hV] at hHeld ⊢
    clear hV
    refine K.consL 2 rfl (by kernel_rfl) (fun KK hK => ?_)
    obtain ⟨b0, b1, b2⟩ := X.out.c3
    go_simp
    clear b0 b1 b2
    refine (beads f A1 c1 _ _ _ _ C.out (by omega) (by omega) hr.out (fun hn q hq => hfA2 q hq)).mono ?_
    rintro e w2 ⟨A2, c2, ms, rfl, hms, hrow0, q2⟩
    go_wp2_with fail
    have hrl := (fun q hq => (hrow0.lt q hq).1)
    have hro : ∀ q, K.blk A2 = some q → w.heap.size ≠ q := fun q hq => by have := hrl q hq; omega
    have hrow := Lib.hid hrow0.rd
    clear hrow0 hrl
    have hz2 : w.heap.size + 1 ≤ w2.heap.size := by have := q2.2.size; omega
    replace BB := Lib.hid (BB.out.trans (q2.below (b := w.heap.size) (by omega) (by omega)))
    replace C := Lib.hid q2.1
    replace X := Lib.hid (X.out.kept q2.2 (fun e => by injection e with e; omega))
    replace rl := Lib.hid (rl.out.kept q2.2 (fun q hq e => hlb ((Option.some.inj e).trans (Option.some.inj hq).symm)))
    replace hr := Lib.hid (hr.out.kept q2.2 (fun q hq e => hfA2 q hq (Option.some.inj e).symm))
    clear q2
    refine hK.out _ _ X.out.c3 (fun hHeld => ?_)
    clear hK KK
    try simp only [Act.put, List.setIfInBounds_toArray, List.set_cons_zero, List.set_cons_succ]
    refine K.consL 11 rfl (by kernel_rfl) (fun KK hK => ?_)
    go_simp
    refine (Cur.among _ _ _ _ (some ⟨W0.heap.size, 0, none⟩) 6 [(f.rods.length : Int), (f.rods.length : Int), 1, 8, 0, 9] C.out (by omega) (by simp) rl.out (fun e => hlb (Option.some.inj e).symm)).mono ?_
    rintro e w3 ⟨v, rfl, hv, q3⟩
    go_wp2_with fail
    have hz3 : w.heap.size + 1 ≤ w3.heap.size := by have := q3.2.size; omega
    replace BB := Lib.hid (BB.out.trans (q3.below (b := w.heap.size) (by omega) (by omega)))
    replace C := Lib.hid q3.1
    replace X := Lib.hid (X.out.kept q3.2 (fun e => by injection e with e; omega))
    replace rl := Lib.hid (rl.out.kept q3.2 (fun q hq e => hlb ((Option.some.inj e).trans (Option.some.inj hq).symm)))
    replace hr := Lib.hid (hr.out.kept q3.2 (fun q hq e => hfA2 q hq (Option.some.inj e).symm))
    replace hrow := Lib.hid (hrow.out.kept q3.2 (fun q hq e => hro q hq (Option.some.inj e)))
    clear q3
    refine hK.out _ _ X.out.c3 (fun hHeld => ?_)
    clear hK KK
    try simp only [Act.put, List.setIfInBounds_toArray, List.set_cons_zero, List.set_cons_succ]
    refine K.takeL 12 (v := ?_) rfl (by kernel_rfl) (by kernel_rfl) (by kernel_rfl) (fun _ _ _ h => h) (Or.inl ⟨rfl, ?_⟩) (by assumption) ?_
    rotate_left
    · intro w hSw; (try dsimp only at hSw); first | (go_simp; done) | (go_simp; with_reducible rfl)
    simp only [Act.put, List.setIfInBounds_toArray, List.set_cons_zero, List.set_cons_succ]
    refine K.takeL 13 (v := ?_) rfl (by kernel_rfl) (by kernel_rfl) (by kernel_rfl) (fun _ _ _ h => h) (Or.inl ⟨rfl, ?_⟩) (by assumption) ?_
    rotate_left
    · intro w hSw; (try dsimp only at hSw); first | (go_simp; done) | (go_simp; with_reducible rfl)
    simp only [Act.put, List.setIfInBounds_toArray, List.set_cons_zero, List.set_cons_succ]
    refine wpAnyH_done (by kernel_rfl) ?_ _
    have hv9 : 0 ≤ v ∧ v ≤ 9 := by simp only [List.mem_cons, List.not_mem_nil, or_false] at hv; omega
    go_wp2_with fail
    go_ret2
    exact ⟨A2, c2, ms, v, rfl, by omega, hv9.1, hv9.2, hrow.out, BB.out⟩
set_option maxRecDepth 100000 in
set_option maxHeartbeats 2000000 in
theorem merged (A : Option Addr) (c : Nat) (l : List UInt8) (w : World) (hl : l.length ≤ 65536) (ha : K.Rd w 1 A l.length (l.map fun b => Value.int .u8 (b.toNat : Int))) :
    Calls Try.prog 41 #[.slice A l.length c] w (RetM w) := by
  obtain ⟨i0, hi0, hy0, hy1, hy2⟩ := info_parts Moves.info
  have hi := Lib.hid (And.intro hy0 (And.intro hy1 hy2))
  clear hy0 hy1 hy2
  have C : Hid (K.Cur (w.alloc (.cells #[.slice A l.length c, .int .i64 0, .int .u64 0] 88)) w.heap.size w.heap.size 0) := Lib.hid (K.Cur.new (c := c) ha hl 88)
  have BB : Hid (Below w.heap.size w (w.alloc (.cells #[.slice A l.length c, .int .i64 0, .int .u64 0] 88))) := Lib.hid ((Below.refl _ _).alloc (Nat.le_refl _) _)
  have hz0 : w.heap.size + 1 ≤ (w.alloc (.cells #[.slice A l.length c, .int .i64 0, .int .u64 0] 88)).heap.size := by simp
  clear ha
  go_enter Try.func41, Try.ntmps41
  go_wp2_with fail
  refine (frame _ _ _ _ C.out (by omega)).mono ?_
  rintro e w1 ⟨A1, c1, f, rfl, hf9, hr, hfA, q1⟩
  have hz1 : w.heap.size + 1 ≤ w1.heap.size := by have := q1.2.size; omega
  replace BB := Lib.hid (BB.out.trans (q1.below (b := w.heap.size) (by omega) (by omega)))
  replace C := Lib.hid q1.1
  clear q1
  go_wp2_with fail
  refine (beads f A1 c1 _ _ _ _ C.out (by omega) (by omega) hr (fun hn q hq => by have := hfA q hq; omega)).mono ?_
  rintro e w2 ⟨A2, c2, ms, rfl, hms, hrow, q2⟩
  have hz2 : w.heap.size + 1 ≤ w2.heap.size := by have := q2.2.size; omega
  replace BB := Lib.hid (BB.out.trans (q2.below (b := w.heap.size) (by omega) (by omega)))
  replace C := Lib.hid q2.1
  clear q2 hr hfA
  skip
  have hrl : ∀ q, K.blk A2 = some q → w.heap.size + 1 ≤ q := fun q hq => by have := (hrow.lt q hq).1; omega
  have R := Lib.hid hrow
  clear hrow
  by_cases hn : 0 < ms.length
  · have hn1 : (0 : Int) < (ms.length : Int) := by omega
    go_wp2_with fail
    refine (Cur.one _ _ _ _ 2 C.out (by omega)).mono ?_
    rintro e w3 ⟨bo, rfl, q3⟩
    have hz3 : w.heap.size + 1 ≤ w3.heap.size := by have := q3.2.size; omega
    replace BB := Lib.hid (BB.out.trans (q3.below (b := w.heap.size) (by omega) (by omega)))
    replace C := Lib.hid q3.1
    replace R := Lib.hid (R.out.kept q3.2 (fun q hq e => by have := hrl q hq; have := Option.some.inj e; omega))
    clear q3
    cases bo with
    | false =>
      go_wp2_with fail
      go_ret
      exact ⟨A2, c2, ms, rfl, by omega, R.out.rd, BB.out⟩
    | true =>
      obtain ⟨j, hj⟩ : ∃ j, ms.length = j + 1 := ⟨ms.length - 1, by omega⟩
      have hjm : j < ms.length := by omega
      have hsj : IntKind.i64.wrap ((ms.length : Int) - 1) = (j : Int) := by rw [hj, show ((j + 1 : Nat) : Int) - 1 = (j : Int) by omega]; exact IntWalk.i64_in _ (by omega)
      have hj1 : (j : Int) < (ms.length : Int) := by omega
      have hj0 : (0 : Int) ≤ (j : Int) := by omega
      clear hj
      obtain ⟨qa, eA, _, hqa, c0, cx1, cx2⟩ := R.out.move hjm
      generalize ms[j].rod = r at *
      generalize ms[j].part = p at *
      generalize ms[j].by_ = y at *
      subst eA
      go_upto_region 5 with fail
      clear c0 cx1 cx2
      obtain ⟨W0, hW0⟩ : ∃ X, X = World.drew (World.alloc w3 (.cells #[.int .i64 r, .int .i64 p, .int .i64 y] 25)) := ⟨_, rfl⟩
      have X := Lib.hid (show K.Box W0 w3.heap.size _ by rw [hW0]; exact (K.Box.new w3 #[.int .i64 r, .int .i64 p, .int .i64 y] 25).drew)
      replace C := Lib.hid (show K.Cur W0 w.heap.size w.heap.size _ by rw [hW0]; exact (C.out.alloc (.cells #[.int .i64 r, .int .i64 p, .int .i64 y] 25)).drew)
      replace R := Lib.hid (show K.Row W0 _ 25 3 (some ⟨qa, 0, none⟩) ms.length c2 (ms.flatMap M.moveCells) by rw [hW0]; exact (R.out.alloc (.cells #[.int .i64 r, .int .i64 p, .int .i64 y] 25)).drew)
      replace BB := Lib.hid (show Below w.heap.size w W0 by rw [hW0]; exact (BB.out.alloc (by omega) (.cells #[.int .i64 r, .int .i64 p, .int .i64 y] 25)).drew)
      have hzw : w.heap.size + 1 ≤ W0.heap.size := by have := X.out.1; omega
      have hxa : w3.heap.size ≠ w.heap.size ∧ qa ≠ w3.heap.size := ⟨by omega, by omega⟩
      refine wp_region_held_drew (S := fun w' => w'.cell? ⟨w3.heap.size, 0, none⟩ = some (.int .i64 r) ∧ w'.cell? ⟨w3.heap.size, 1, none⟩ = some (.int .i64 p) ∧ w'.cell? ⟨w3.heap.size, 2, none⟩ = some (.int .i64 y)) (by kernel_rfl) (by rw [← hW0]; exact X.out.c3) (fun hHeld => ?_)
      rw [← hW0] at hHeld ⊢
      clear hW0
      refine K.takeL 0 (v := ?_) rfl (by kernel_rfl) (by kernel_rfl) (by kernel_rfl) (fun _ _ _ h => h) (Or.inl ⟨rfl, ?_⟩) (by assumption) ?_
      rotate_left
      · intro w hSw; (try dsimp only at hSw); first | (go_simp; done) | (go_simp; with_reducible rfl)
      simp only [Act.put, List.setIfInBounds_toArray, List.set_cons_zero, List.set_cons_succ]
      refine K.takeL 1 (v := ?_) rfl (by kernel_rfl) (by kernel_rfl) (by kernel_rfl) (fun _ _ _ h => h) (Or.inl ⟨rfl, ?_⟩) (by assumption) ?_
      rotate_left
      · intro w hSw; (try dsimp only at hSw); first | (go_simp; done) | (go_simp; with_reducible rfl)
      simp only [Act.put, List.setIfInBounds_toArray, List.set_cons_zero, List.set_cons_succ]
      refine K.takeL 2 (v := ?_) rfl (by kernel_rfl) (by kernel_rfl) (by kernel_rfl) (fun _ _ _ h => h) (Or.inl ⟨rfl, ?_⟩) (by assumption) ?_
      rotate_left
      · intro w hSw; (try dsimp only at hSw); first | (go_simp; done) | (go_simp; with_reducible rfl)
      simp only [Act.put, List.setIfInBounds_toArray, List.set_cons_zero, List.set_cons_succ]
      refine K.takeL 3 (v := ?_) rfl (by kernel_rfl) (by kernel_rfl) (by kernel_rfl) (fun _ _ _ h => h) (Or.inl ⟨rfl, ?_⟩) (by assumption) ?_
      rotate_left
      · intro w hSw; (try dsimp only at hSw); first | (go_simp; done) | (go_simp; with_reducible rfl)
      simp only [Act.put, List.setIfInBounds_toArray, List.set_cons_zero, List.set_cons_succ]
      refine K.takeL 4 (v := ?_) rfl (by kernel_rfl) (by kernel_rfl) (by kernel_rfl) (fun _ _ _ h => h) (Or.inl ⟨rfl, ?_⟩) (by assumption) ?_
      rotate_left
      · intro w hSw; (try dsimp only at hSw); first | (go_simp; done) | (go_simp; with_reducible rfl)
      simp only [Act.put, List.setIfInBounds_toArray, List.set_cons_zero, List.set_cons_succ]
      refine K.takeL 5 (v := ?_) rfl (by kernel_rfl) (by kernel_rfl) (by kernel_rfl) (fun _ _ _ h => h) (Or.inl ⟨rfl, ?_⟩) (by assumption) ?_
      rotate_left
      · intro w hSw; (try dsimp only at hSw); first | (go_simp; done) | (go_simp; with_reducible rfl)
      simp only [Act.put, List.setIfInBounds_toArray, List.set_cons_zero, List.set_cons_succ]
      refine K.takeL 6 (v := ?_) rfl (by kernel_rfl) (by kernel_rfl) (by kernel_rfl) (fun _ _ _ h => h) (Or.inl ⟨rfl, ?_⟩) (by assumption) ?_
      rotate_left
      · intro w hSw; (try dsimp only at hSw); first | (go_simp; done) | (go_simp; with_reducible rfl)
      simp only [Act.put, List.setIfInBounds_toArray, List.set_cons_zero, List.set_cons_succ]
      refine K.takeL 7 (v := ?_) rfl (by kernel_rfl) (by kernel_rfl) (by kernel_rfl) (fun _ _ _ h => h) (Or.inl ⟨rfl, ?_⟩) (by assumption) ?_
      rotate_left
      · intro w hSw; (try dsimp only at hSw); first | (go_simp; done) | (go_simp; with_reducible rfl)
      simp only [Act.put, List.setIfInBounds_toArray, List.set_cons_zero, List.set_cons_succ]
      refine K.takeL 8 (v := ?_) rfl (by kernel_rfl) (by kernel_rfl) (by kernel_rfl) (fun _ _ _ h => h) (Or.inl ⟨rfl, ?_⟩) (by assumption) ?_
      rotate_left
      · intro w hSw; (try dsimp only at hSw); first | (go_simp; done) | (go_simp; with_reducible rfl)
      simp only [Act.put, List.setIfInBounds_toArray, List.set_cons_zero, List.set_cons_succ]
      refine K.consL 9 rfl (by kernel_rfl) (fun KK hK => ?_)
      go_simp
      have rl := Lib.hid (K.Rd.new W0 #[.int .i64 (IntKind.i64.wrap (-y)), .int .i64 1, .int .i64 (-1), .int .i64 4] 3 4 1 rfl)
      have hlb : w.heap.size ≠ W0.heap.size := by omega
      replace X := Lib.hid (X.out.alloc (.cells #[.int .i64 (IntKind.i64.wrap (-y)), .int .i64 1, .int .i64 (-1), .int .i64 4] 3))
      replace C := Lib.hid (C.out.alloc (.cells #[.int .i64 (IntKind.i64.wrap (-y)), .int .i64 1, .int .i64 (-1), .int .i64 4] 3))
      replace R := Lib.hid (R.out.alloc (.cells #[.int .i64 (IntKind.i64.wrap (-y)), .int .i64 1, .int .i64 (-1), .int .i64 4] 3))
      replace BB := Lib.hid (BB.out.alloc (by omega) (.cells #[.int .i64 (IntKind.i64.wrap (-y)), .int .i64 1, .int .i64 (-1), .int .i64 4] 3))
      obtain ⟨V, hV⟩ : ∃ X, X = W0.alloc (.cells #[.int .i64 (IntKind.i64.wrap (-y)), .int .i64 1, .int .i64 (-1), .int .i64 4] 3) := ⟨_, rfl⟩
      rw [← hV] at X
      rw [← hV] at C
      rw [← hV] at R
      rw [← hV] at BB
      rw [← hV] at rl
      have hzV : w.heap.size + 1 ≤ V.heap.size := by rw [hV]; simp; omega
      refine hK.out _ _ (by rw [← hV]; exact X.out.c3) (fun hHeld => ?_)
      clear hK KK
      try simp only [Act.put, List.setIfInBounds_toArray, List.set_cons_zero, List.set_cons_succ]
      rw [← hV] at hHeld ⊢
      clear hV
      refine K.consL 10 rfl (by kernel_rfl) (fun KK hK => ?_)
      go_simp
      refine (Cur.among _ _ _ _ (some ⟨W0.heap.size, 0, none⟩) 4 [IntKind.i64.wrap (-y), 1, -1, 4] C.out (by omega) (by simp) rl.out (fun e => hlb (Option.some.inj e).symm)).mono ?_
      rintro e w5 ⟨v, rfl, _, q5⟩
      go_wp2_with fail
      have hz5 : w.heap.size + 1 ≤ w5.heap.size := by have := q5.2.size; omega
      replace BB := Lib.hid (BB.out.trans (q5.below (b := w.heap.size) (by omega) (by omega)))
      replace C := Lib.hid q5.1
      replace X := Lib.hid (X.out.kept q5.2 (fun e => by injection e with e; omega))
      replace R := Lib.hid (R.out.kept q5.2 (fun q hq e => by have := hrl q hq; have := Option.some.inj e; omega))
      clear q5 rl
      refine hK.out _ _ X.out.c3 (fun hHeld => ?_)
      clear hK KK
      try simp only [Act.put, List.setIfInBounds_toArray, List.set_cons_zero, List.set_cons_succ]
      refine K.takeL 11 (v := ?_) rfl (by kernel_rfl) (by kernel_rfl) (by kernel_rfl) (fun _ _ _ h => h) (Or.inl ⟨rfl, ?_⟩) (by assumption) ?_
      rotate_left
      · intro w hSw; (try dsimp only at hSw); first | (go_simp; done) | (go_simp; with_reducible rfl)
      simp only [Act.put, List.setIfInBounds_toArray, List.set_cons_zero, List.set_cons_succ]
      refine K.consL 12 rfl (by kernel_rfl) (fun KK hK => ?_)
      go_simp
      have rn := K.Rd.new w5 #[.int .i64 r, .int .i64 p, .int .i64 v] 25 1 3 rfl
      have X2 := Lib.hid (X.out.alloc (.cells #[.int .i64 r, .int .i64 p, .int .i64 v] 25))
      have R2 := Lib.hid (R.out.alloc (.cells #[.int .i64 r, .int .i64 p, .int .i64 v] 25))
      have BB2 := Lib.hid (BB.out.alloc (by omega) (.cells #[.int .i64 r, .int .i64 p, .int .i64 v] 25))
      refine hK.out _ _ X2.out.c3 (fun hHeld => ?_)
      clear hK KK
      try simp only [Act.put, List.setIfInBounds_toArray, List.set_cons_zero, List.set_cons_succ]
      refine K.consL 13 rfl (by kernel_rfl) (fun KK hK => ?_)
      have hi2 := hi.out
      refine K.stepN (by rfl) (.tmp 26) (.tmp 38) _ (by rfl) _ _ i0 _ 3 24 Try.underlying43 hi0 hi2.1 hi2.2.1 hi2.2.2 rfl (by omega) (some ⟨qa, 0, none⟩) ms.length c2 _ (by rfl) R2.out (some ⟨w5.heap.size, 0, none⟩) 1 1 #[.int .i64 r, .int .i64 p, .int .i64 v].toList (by rfl) rn (by simp [Value.oneCell']) (by simp only [maxLen]; omega) (by omega) (by have := R2.out.lt qa rfl; omega) ?_
      intro A5 c5 w6 hrow6 hb6 hgr6 hat6
      refine hK.out _ _ (X2.out.kept hgr6 (fun e => hxa.2 (Option.some.inj e))).c3 (fun hHeld => ?_)
      clear hK KK
      try simp only [Act.put, List.setIfInBounds_toArray, List.set_cons_zero, List.set_cons_succ]
      refine K.takeL 14 (v := ?_) rfl (by kernel_rfl) (by kernel_rfl) (by kernel_rfl) (fun _ _ _ h => h) (Or.inl ⟨rfl, ?_⟩) (by assumption) ?_
      rotate_left
      · intro w hSw; (try dsimp only at hSw); first | (go_simp; done) | (go_simp; with_reducible rfl)
      simp only [Act.put, List.setIfInBounds_toArray, List.set_cons_zero, List.set_cons_succ]
      refine wpAnyH_done (by kernel_rfl) ?_ _
      go_wp2_with fail
      go_ret
      exact ⟨A5, c5, ms ++ [⟨r, p, v⟩], by rw [List.length_append]; rfl, by rw [List.length_append]; simp; omega, by rw [List.length_append, List.flatMap_append]; simpa [M.moveCells] using hrow6.rd, BB2.out.trans ((Below.refl _ _).grown hgr6 (by simp only [World.size_alloc]; omega) (fun k hk => by have := hrl k hk; omega))⟩
  · have hn1 : ¬ (0 : Int) < (ms.length : Int) := by omega
    go_wp2_with fail
    go_ret
    exact ⟨A2, c2, ms, rfl, by omega, R.out.rd, BB.out⟩
set_option maxRecDepth 100000 in
set_option maxHeartbeats 2000000 in
theorem parse (A : Option Addr) (c : Nat) (l : List UInt8) (w : World) (hl : l.length ≤ 65536) (ha : K.Rd w 1 A l.length (l.map fun b => Value.int .u8 (b.toNat : Int))) :
    Calls Try.prog 39 #[.slice A l.length c] w (RetT w) := by
  have C : Hid (K.Cur (w.alloc (.cells #[.slice A l.length c, .int .i64 0, .int .u64 0] 88)) w.heap.size w.heap.size 0) := Lib.hid (K.Cur.new (c := c) ha hl 88)
  have BB : Hid (Below w.heap.size w (w.alloc (.cells #[.slice A l.length c, .int .i64 0, .int .u64 0] 88))) := Lib.hid ((Below.refl _ _).alloc (Nat.le_refl _) _)
  have hz0 : w.heap.size + 1 ≤ (w.alloc (.cells #[.slice A l.length c, .int .i64 0, .int .u64 0] 88)).heap.size := by simp
  clear ha
  go_enter Try.func39, Try.ntmps39
  go_wp2_with fail
  refine (frame _ _ _ _ C.out (by omega)).mono ?_
  rintro e w1 ⟨A1, c1, f, rfl, hf9, hr, hfA, q1⟩
  have hz1 : w.heap.size + 1 ≤ w1.heap.size := by have := q1.2.size; omega
  replace BB := Lib.hid (BB.out.trans (q1.below (b := w.heap.size) (by omega) (by omega)))
  replace C := Lib.hid q1.1
  clear q1
  go_wp2_with fail
  refine (beads f A1 c1 _ _ _ _ C.out (by omega) (by omega) hr (fun hn q hq => by have := hfA q hq; omega)).mono ?_
  rintro e w2 ⟨A2, c2, ms, rfl, hms, hrow, q2⟩
  have hz2 : w.heap.size + 1 ≤ w2.heap.size := by have := q2.2.size; omega
  replace BB := Lib.hid (BB.out.trans (q2.below (b := w.heap.size) (by omega) (by omega)))
  replace C := Lib.hid q2.1
  clear q2 hr hfA
  have R := Lib.hid hrow.rd
  clear hrow
  go_wp2_with fail
  refine (MoveF.s_good A2 c2 ms _ (by omega) R.out).mono ?_
  rintro e w3 ⟨rfl, b3⟩
  have hz3 : w.heap.size + 1 ≤ w3.heap.size := by have := b3.size; omega
  replace R := Lib.hid (R.out.below b3)
  replace C := Lib.hid (C.out.below b3)
  replace BB := Lib.hid (BB.out.trans (b3.mono (by omega)))
  clear b3
  have KEY : ∀ (t : ByteArray), t.size ≤ 300 → t.size ≤ 1000000 := fun t h => by omega
  cases hok : M.movesOk ms with
  | false =>
    clear hok KEY R
    have ht0 : (ByteArray.mk #[48, 117, 43, 49, 32, 49, 108, 45, 51]).size ≤ 300 := by decide
    go_wp2_with fail
    refine (Cur.one _ _ _ _ 4 C.out (by omega)).mono ?_
    rintro e w4 ⟨bo, rfl, q4⟩
    have hz4 : w.heap.size + 1 ≤ w4.heap.size := by have := q4.2.size; omega
    replace BB := Lib.hid (BB.out.trans (q4.below (b := w.heap.size) (by omega) (by omega)))
    replace C := Lib.hid q4.1
    clear q4
    cases bo with
    | false =>
      go_wp2_with fail
      go_ret
      exact ⟨_, rfl, by have := ht0; omega, BB.out⟩
    | true =>
      go_wp2_with fail
      refine (spoilt ⟨#[48, 117, 43, 49, 32, 49, 108, 45, 51]⟩ ⟨#[117, 108, 43, 45, 32, 48, 49, 53]⟩ _ _ _ _ C.out (by omega) (by have := ht0; omega) (by decide)).mono ?_
      rintro e w5 ⟨s, rfl, hs, q5⟩
      have hz5 : w.heap.size + 1 ≤ w5.heap.size := by have := q5.2.size; omega
      replace BB := Lib.hid (BB.out.trans (q5.below (b := w.heap.size) (by omega) (by omega)))
      replace C := Lib.hid q5.1
      clear q5
      go_wp2_with fail
      go_ret
      exact ⟨s, rfl, by have := ht0; omega, BB.out⟩
  | true =>
    obtain ⟨h60, hall, hts⟩ := txt_size hok
    clear hok KEY
    go_wp2_with fail
    refine (MoveT.s_txt A2 c2 ms _ h60 hall R.out).mono ?_
    rintro e w4 ⟨rfl, b4⟩
    have hz4 : w.heap.size + 1 ≤ w4.heap.size := by have := b4.size; omega
    replace C := Lib.hid (C.out.below b4)
    replace BB := Lib.hid (BB.out.trans (b4.mono (by omega)))
    clear b4 R
    generalize M.movesTxt ms = t at *
    go_wp2_with fail
    refine (Cur.one _ _ _ _ 4 C.out (by omega)).mono ?_
    rintro e w5 ⟨bo, rfl, q5⟩
    have hz5 : w.heap.size + 1 ≤ w5.heap.size := by have := q5.2.size; omega
    replace BB := Lib.hid (BB.out.trans (q5.below (b := w.heap.size) (by omega) (by omega)))
    replace C := Lib.hid q5.1
    clear q5
    cases bo with
    | false =>
      go_wp2_with fail
      go_ret
      exact ⟨_, rfl, by have := hts; omega, BB.out⟩
    | true =>
      go_wp2_with fail
      refine (spoilt t ⟨#[117, 108, 43, 45, 32, 48, 49, 53]⟩ _ _ _ _ C.out (by omega) (by have := hts; omega) (by decide)).mono ?_
      rintro e w6 ⟨s, rfl, hs, q6⟩
      have hz6 : w.heap.size + 1 ≤ w6.heap.size := by have := q6.2.size; omega
      replace BB := Lib.hid (BB.out.trans (q6.below (b := w.heap.size) (by omega) (by omega)))
      replace C := Lib.hid q6.1
      clear q6
      go_wp2_with fail
      go_ret
      exact ⟨s, rfl, by have := hts; omega, BB.out⟩
end Go.Proofs.Ythlkdaogmcjlbaa.MoveD
