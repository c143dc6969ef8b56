/-
  Walks: a move of beads in the reference, as far as the draws need it: whatever it returns, it is some frame of as many rods (printed by gen_mmake.py).
-/
import Derived.Test.YthlkdaogmcjlbaaFrame
import Derived.Test.YthlkdaogmcjlbaaMoveF
import Derived.Test.YthlkdaogmcjlbaaPair
import Derived.Test.YthlkdaogmcjlbaaKit4
import Derived.Test.YthlkdaogmcjlbaaKit5
import Derived.Test.YthlkdaogmcjlbaaCur
import Derived.Deep.DeepCutAuto
import Derived.Deep.RegionHeld3
set_option linter.unusedVariables false
namespace Go.Proofs.Ythlkdaogmcjlbaa.MoveC
open Go.RowKit
theorem row_made2 (w : World) (lo : Nat) (h : lo ≤ w.heap.size) : K.Row (w.alloc (.cells #[] 74)) lo 74 2 (some ⟨w.heap.size, 0, none⟩) 0 0 [] := by
  have h0 : K.Row (w.alloc (.cells #[] 74)) w.heap.size 74 2 (some ⟨w.heap.size, 0, none⟩) 0 0 [] := World.ownsRow_made w #[] 0 (Nat.le_refl _) (Nat.zero_le _) rfl
  exact h0.more h
theorem cells_one (l : List (Int × Int)) : ∀ u ∈ l.flatMap M.rodCells, u.oneCell' = true := by
  intro u hu
  obtain ⟨r, _, hr⟩ := List.mem_flatMap.1 hu
  simp only [M.rodCells, List.mem_cons, List.not_mem_nil, or_false] at hr
  rcases hr with rfl | rfl <;> rfl
theorem rod_set : ∀ (l : List (Int × Int)) (k : Nat) (hk : k < l.length) (a b : Int), ((l.flatMap M.rodCells).set (k * 2) (.int .i64 a)).set (k * 2 + 1) (.int .i64 b) = (l.set k (a, b)).flatMap M.rodCells
  | [], k, hk, a, b => absurd hk (by simp)
  | u :: l, 0, hk, a, b => by simp [M.rodCells, List.flatMap_cons]
  | u :: l, k + 1, hk, a, b => by
      have ih := rod_set l k (by simpa using hk) a b
      simp only [List.flatMap_cons, List.set_cons_succ, M.rodCells] at ih ⊢
      rw [show (k + 1) * 2 = k * 2 + 1 + 1 from by omega]
      simp only [List.cons_append, List.nil_append, List.set_cons_succ]
      rw [ih]
/-- a frame's row is written at one rod. -/
theorem row_setRod {w : World} {lo c g : Nat} {l : List (Int × Int)} (h : K.Row w lo 74 2 (some ⟨g, 0, none⟩) l.length c (l.flatMap M.rodCells)) {k : Nat} (hk : k < l.length) (a b : Int) :
    K.Row ((w.setCell ⟨g, k * 2, none⟩ (.int .i64 a)).setCell ⟨g, k * 2 + 1, none⟩ (.int .i64 b)) lo 74 2 (some ⟨g, 0, none⟩) (l.set k (a, b)).length c ((l.set k (a, b)).flatMap M.rodCells) := by
  have h1 := (h.set2 (k * 2) (.int .i64 a) (.int .i64 b)).1
  rw [rod_set l k hk a b] at h1
  rw [List.length_set]; exact h1
/-- a call that returns a frame of its own. -/
def RetF (w : World) (f : M.Frame) (e : Ending) (w' : World) : Prop :=
  ∃ A c, e = .returned (.agg #[.int .i64 f.upper, .int .i64 f.lower, .slice A f.rods.length c]) ∧ K.Row w' w.heap.size 74 2 A f.rods.length c (f.rods.flatMap M.rodCells) ∧ Below w.heap.size w w'
/-- a call that returns some frame of its own, of n rods if the bool is true. -/
def RetFB (w : World) (n : Nat) (e : Ending) (w' : World) : Prop :=
  ∃ (f : M.Frame) (A : Option Addr) (c : Nat) (b : Bool), e = .returned (.tuple #[.agg #[.int .i64 f.upper, .int .i64 f.lower, .slice A f.rods.length c], .bool b]) ∧ (b = true → f.rods.length = n) ∧ K.Rd w' 2 A f.rods.length (f.rods.flatMap M.rodCells) ∧ (∀ q, K.blk A = some q → w.heap.size ≤ q) ∧ Below w.heap.size w w'
set_option maxRecDepth 100000 in
set_option maxHeartbeats 4000000 in
theorem s_own (f : M.Frame) (A : Option Addr) (c : Nat) (w : World) (hl : f.rods.length ≤ 1048576) (ha : K.Rd w 2 A f.rods.length (f.rods.flatMap M.rodCells)) :
    Calls Try.prog 118 #[.agg #[.int .i64 f.upper, .int .i64 f.lower, .slice A f.rods.length c]] w (RetF w f) := by
  obtain ⟨i0, hi0, hz0, hz1, hz2⟩ := info_parts Pair.info2
  obtain ⟨o0, ho0⟩ : ∃ o : Obj, o = .cells #[.int .i64 f.upper, .int .i64 f.lower, .slice A f.rods.length c] 33 := ⟨_, rfl⟩
  obtain ⟨o1, ho1⟩ : ∃ o : Obj, o = .cells #[.int .i64 0, .int .i64 0, .slice none 0 0] 33 := ⟨_, rfl⟩
  have x : K.Box ((w.alloc o0).alloc o1) (w.heap.size) [.int .i64 f.upper, .int .i64 f.lower, .slice A f.rods.length c] := by have h := K.Box.new w #[.int .i64 f.upper, .int .i64 f.lower, .slice A f.rods.length c] 33; rw [← ho0] at h; exact (h.alloc _)
  have z : K.Own ((w.alloc o0).alloc o1) (w.heap.size + 1) [.int .i64 0, .int .i64 0, .slice none 0 0] := by have h := K.Own.new (w.alloc o0) #[.int .i64 0, .int .i64 0, .slice none 0 0] 33; simp only [World.size_alloc] at h; rw [← ho1] at h; exact h
  have r : K.Rd ((w.alloc o0).alloc o1) 2 A f.rods.length (f.rods.flatMap M.rodCells) := (ha.alloc _).alloc _
  have bb : Below w.heap.size w ((w.alloc o0).alloc o1) := by (repeat (first | exact Below.refl _ _ | assumption | (refine K.below_drewN ?_ _) | (refine Below.drew ?_) | (refine Below.alloc ?_ (by first | (simp; done) | (simp; omega) | omega) _) | (refine Below.setCell ?_ (by first | (simp; done) | (simp; omega) | omega) _)))
  subst ho0 ho1
  clear ha
  go_enter Try.func118, Try.ntmps118
  go_upto_region 1 with fail
  obtain ⟨V, hV⟩ : ∃ X, X = World.drew ((w.alloc (.cells #[.int .i64 f.upper, .int .i64 f.lower, .slice A f.rods.length c] 33)).alloc (.cells #[.int .i64 0, .int .i64 0, .slice none 0 0] 33)) := ⟨_, rfl⟩
  replace x : K.Box V w.heap.size [.int .i64 f.upper, .int .i64 f.lower, .slice A f.rods.length c] := by rw [hV]; exact x.drew
  replace z : K.Own V (w.heap.size + 1) [.int .i64 0, .int .i64 0, .slice none 0 0] := by rw [hV]; exact z.drew
  replace r : K.Rd V 2 A f.rods.length (f.rods.flatMap M.rodCells) := by rw [hV]; exact r.drewN 1
  replace bb : Below w.heap.size w V := by rw [hV]; exact bb.drew
  have hzl := z.1.1
  refine wp_region_held_drew (S := fun w' => w'.cell? ⟨w.heap.size, 0, none⟩ = some (.int .i64 f.upper) ∧ w'.cell? ⟨w.heap.size, 1, none⟩ = some (.int .i64 f.lower) ∧ w'.cell? ⟨w.heap.size, 2, none⟩ = some (.slice A f.rods.length c)) (by kernel_rfl) (by rw [← hV]; exact x.c3) (fun hHeld => ?_)
  rw [← hV] at hHeld ⊢
  clear hV
  refine K.takeL 0 (v := ?_) rfl (by kernel_rfl) (by kernel_rfl) (by kernel_rfl) (fun _ _ _ h => h) (Or.inl ⟨rfl, ?_⟩) (by assumption) ?_
  rotate_left
  · intro w hSw; (try dsimp only at hSw); first | (go_simp; done) | (go_simp; with_reducible rfl)
  simp only [Act.put, List.setIfInBounds_toArray, List.set_cons_zero, List.set_cons_succ]
  refine K.takeL 1 (v := ?_) rfl (by kernel_rfl) (by kernel_rfl) (by kernel_rfl) (fun _ _ _ h => h) (Or.inl ⟨rfl, ?_⟩) (by assumption) ?_
  rotate_left
  · intro w hSw; (try dsimp only at hSw); first | (go_simp; done) | (go_simp; with_reducible rfl)
  simp only [Act.put, List.setIfInBounds_toArray, List.set_cons_zero, List.set_cons_succ]
  refine K.takeL 2 (v := ?_) rfl (by kernel_rfl) (by kernel_rfl) (by kernel_rfl) (fun _ _ _ h => h) (Or.inl ⟨rfl, ?_⟩) (by assumption) ?_
  rotate_left
  · intro w hSw; (try dsimp only at hSw); first | (go_simp; done) | (go_simp; with_reducible rfl)
  simp only [Act.put, List.setIfInBounds_toArray, List.set_cons_zero, List.set_cons_succ]
  refine K.takeL 3 (v := ?_) rfl (by kernel_rfl) (by kernel_rfl) (by kernel_rfl) (fun _ _ _ h => h) (Or.inl ⟨rfl, ?_⟩) (by assumption) ?_
  rotate_left
  · intro w hSw; (try dsimp only at hSw); first | (go_simp; done) | (go_simp; with_reducible rfl)
  simp only [Act.put, List.setIfInBounds_toArray, List.set_cons_zero, List.set_cons_succ]
  refine K.takeL 5 (v := ?_) rfl (by kernel_rfl) (by kernel_rfl) (by kernel_rfl) (fun _ _ _ h => h) (Or.inl ⟨rfl, ?_⟩) (by assumption) ?_
  rotate_left
  · intro w hSw; (try dsimp only at hSw); first | (go_simp; done) | (go_simp; with_reducible rfl)
  simp only [Act.put, List.setIfInBounds_toArray, List.set_cons_zero, List.set_cons_succ]
  refine K.takeL 6 (v := ?_) rfl (by kernel_rfl) (by kernel_rfl) (by kernel_rfl) (fun _ _ _ h => h) (Or.inl ⟨rfl, ?_⟩) (by assumption) ?_
  rotate_left
  · intro w hSw; (try dsimp only at hSw); first | (go_simp; done) | (go_simp; with_reducible rfl)
  simp only [Act.put, List.setIfInBounds_toArray, List.set_cons_zero, List.set_cons_succ]
  refine K.consL 4 rfl (by kernel_rfl) (fun KK hK => ?_)
  go_simp
  have x1 := x.alloc (.cells #[] 74)
  have z1 := z.alloc (.cells #[] 74)
  have r1 := r.alloc (.cells #[] 74)
  have bb1 := bb.alloc bb.size (.cells #[] 74)
  have row := row_made2 V (w.heap.size + 1 + 1) (by omega)
  have hsz := z1.1.1
  refine hK.out _ _ x1.c3 (fun hHeld => ?_)
  clear hK KK
  try simp only [Act.put, List.setIfInBounds_toArray, List.set_cons_zero, List.set_cons_succ]
  refine K.consL 7 rfl (by kernel_rfl) (fun KK hK => ?_)
  refine K.stepN (by rfl) (.tmp 7) (.tmp 9) _ (by rfl) (w.heap.size + 1 + 1) _ i0 _ 2 16 Try.underlying28 hi0 hz0 hz1 hz2 rfl (by omega) (some ⟨V.heap.size, 0, none⟩) 0 0 [] (by rfl) row A f.rods.length c (f.rods.flatMap M.rodCells) (by rfl) r1 (cells_one _) (by simp only [maxLen]; omega) (by omega) (by omega) ?_
  intro A5 c5 w4 hrow hb hg hat
  simp only [Nat.zero_add, List.nil_append] at hrow ⊢
  have x4 := x1.low hb (by omega)
  have z4 := z1.low hb (by omega)
  have bb4 := bb1.trans (hb.mono (by omega))
  refine hK.out _ _ x4.c3 (fun hHeld => ?_)
  clear hK KK
  try simp only [Act.put, List.setIfInBounds_toArray, List.set_cons_zero, List.set_cons_succ]
  refine K.takeL 8 (v := ?_) rfl (by kernel_rfl) (by kernel_rfl) (by kernel_rfl) (fun _ _ _ h => h) (Or.inl ⟨rfl, ?_⟩) (by assumption) ?_
  rotate_left
  · intro w hSw; (try dsimp only at hSw); first | (go_simp; done) | (go_simp; with_reducible rfl)
  simp only [Act.put, List.setIfInBounds_toArray, List.set_cons_zero, List.set_cons_succ]
  refine K.consL 9 rfl (by kernel_rfl) (fun KK hK => ?_)
  obtain ⟨z40, z41, z42, f0, f1, f2, zg⟩ := z4.c3
  go_simp
  clear z40 z41 z42 f0 f1 f2 zg
  replace x4 := x4.setOther (p := ⟨w.heap.size + 1, 0, none⟩) (by simp) (.int .i64 f.upper)
  replace z4 := z4.set_ 0 (by simp) (.int .i64 f.upper)
  replace hrow := hrow.setOther (p := ⟨w.heap.size + 1, 0, none⟩) (by simp) (.int .i64 f.upper)
  replace bb4 := bb4.setCell (p := ⟨w.heap.size + 1, 0, none⟩) (by simp) (.int .i64 f.upper)
  replace x4 := x4.setOther (p := ⟨w.heap.size + 1, 1, none⟩) (by simp) (.int .i64 f.lower)
  replace z4 := z4.set_ 1 (by simp) (.int .i64 f.lower)
  replace hrow := hrow.setOther (p := ⟨w.heap.size + 1, 1, none⟩) (by simp) (.int .i64 f.lower)
  replace bb4 := bb4.setCell (p := ⟨w.heap.size + 1, 1, none⟩) (by simp) (.int .i64 f.lower)
  replace x4 := x4.setOther (p := ⟨w.heap.size + 1, 2, none⟩) (by simp) (.slice A5 f.rods.length c5)
  replace z4 := z4.set_ 2 (by simp) (.slice A5 f.rods.length c5)
  replace hrow := hrow.setOther (p := ⟨w.heap.size + 1, 2, none⟩) (by simp) (.slice A5 f.rods.length c5)
  replace bb4 := bb4.setCell (p := ⟨w.heap.size + 1, 2, none⟩) (by simp) (.slice A5 f.rods.length c5)
  refine hK.out _ _ x4.c3 (fun hHeld => ?_)
  clear hK KK
  try simp only [Act.put, List.setIfInBounds_toArray, List.set_cons_zero, List.set_cons_succ]
  refine wpAnyH_done (by kernel_rfl) ?_ _
  have z5 : K.Own _ _ [.int .i64 f.upper, .int .i64 f.lower, .slice A5 f.rods.length c5] := z4
  obtain ⟨z50, z51, z52, _, _, _, _⟩ := z5.c3
  go_wp2_with fail
  exact bodyPost_ret (v := .agg #[.int .i64 f.upper, .int .i64 f.lower, .slice A5 f.rods.length c5]) (by simp [results, Try.results118, go_sem, z50, z51, z52]) rfl ⟨A5, c5, rfl, hrow.more (by omega), bb4⟩
set_option maxRecDepth 100000 in
set_option maxHeartbeats 4000000 in
theorem s_make (f : M.Frame) (A : Option Addr) (c : Nat) (p : M.Move) (w : World) (hl : f.rods.length ≤ 1048576) (h0 : 0 ≤ p.rod) (ha : K.Rd w 2 A f.rods.length (f.rods.flatMap M.rodCells)) :
    Calls Try.prog 117 #[.agg #[.int .i64 f.upper, .int .i64 f.lower, .slice A f.rods.length c], .agg #[.int .i64 p.rod, .int .i64 p.part, .int .i64 p.by_]] w (RetFB w f.rods.length) := by
  obtain ⟨o0, ho0⟩ : ∃ o : Obj, o = .cells #[.int .i64 f.upper, .int .i64 f.lower, .slice A f.rods.length c] 33 := ⟨_, rfl⟩
  obtain ⟨o1, ho1⟩ : ∃ o : Obj, o = .cells #[.int .i64 p.rod, .int .i64 p.part, .int .i64 p.by_] 25 := ⟨_, rfl⟩
  obtain ⟨o2, ho2⟩ : ∃ o : Obj, o = .cells #[.int .i64 0, .int .i64 0, .slice none 0 0] 33 := ⟨_, rfl⟩
  have x : K.Box (((w.alloc o0).alloc o1).alloc o2) (w.heap.size) [.int .i64 f.upper, .int .i64 f.lower, .slice A f.rods.length c] := by have h := K.Box.new w #[.int .i64 f.upper, .int .i64 f.lower, .slice A f.rods.length c] 33; rw [← ho0] at h; exact ((h.alloc _).alloc _)
  have y : K.Box (((w.alloc o0).alloc o1).alloc o2) (w.heap.size + 1) [.int .i64 p.rod, .int .i64 p.part, .int .i64 p.by_] := by have h := K.Box.new (w.alloc o0) #[.int .i64 p.rod, .int .i64 p.part, .int .i64 p.by_] 25; simp only [World.size_alloc] at h; rw [← ho1] at h; exact (h.alloc _)
  have z : K.Own (((w.alloc o0).alloc o1).alloc o2) (w.heap.size + 1 + 1) [.int .i64 0, .int .i64 0, .slice none 0 0] := by have h := K.Own.new ((w.alloc o0).alloc o1) #[.int .i64 0, .int .i64 0, .slice none 0 0] 33; simp only [World.size_alloc] at h; rw [← ho2] at h; exact h
  have r : K.Rd (((w.alloc o0).alloc o1).alloc o2) 2 A f.rods.length (f.rods.flatMap M.rodCells) := ((ha.alloc _).alloc _).alloc _
  have bb : Below w.heap.size w (((w.alloc o0).alloc o1).alloc o2) := by (repeat (first | exact Below.refl _ _ | assumption | (refine K.below_drewN ?_ _) | (refine Below.drew ?_) | (refine Below.alloc ?_ (by first | (simp; done) | (simp; omega) | omega) _) | (refine Below.setCell ?_ (by first | (simp; done) | (simp; omega) | omega) _)))
  subst ho0 ho1 ho2
  clear ha
  have hsy := y.1
  by_cases hr : (f.rods.length : Int) ≤ p.rod
  · go_enter Try.func117, Try.ntmps117
    obtain ⟨x0, x1, x2⟩ := x.c3
    obtain ⟨y0, y1, y2⟩ := y.c3
    obtain ⟨z0, z1, z2, z3, z4, z5, z6⟩ := z.c3
    have gx := x.1
    have gy := y.1
    go_wp2_with fail
    exact bodyPost_ret (v := .tuple #[.agg #[.int .i64 0, .int .i64 0, .slice none 0 0], .bool false]) (by simp [results, Try.results117, go_sem, *]) rfl ⟨⟨0, 0, []⟩, none, 0, false, rfl, (fun h => by cases h), K.Rd.nil _ _ _, (fun q hq => by simp [K.blk] at hq), by (repeat (first | exact Below.refl _ _ | assumption | (refine K.below_drewN ?_ _) | (refine Below.drew ?_) | (refine Below.alloc ?_ (by first | (simp; done) | (simp; omega) | omega) _) | (refine Below.setCell ?_ (by first | (simp; done) | (simp; omega) | omega) _)))⟩
  obtain ⟨k, hk⟩ := Int.eq_ofNat_of_zero_le h0
  have hkl : k < f.rods.length := by omega
  have hk1 : (k : Int) < (f.rods.length : Int) := by omega
  have hk0 : (0 : Int) ≤ (k : Int) := by omega
  clear hr h0
  obtain ⟨prod, part, pby⟩ := p
  dsimp only at *
  subst hk
  have hr : ¬ ((f.rods.length : Int) ≤ (k : Int)) := by omega
  go_enter Try.func117, Try.ntmps117
  obtain ⟨x0, x1, x2⟩ := x.c3
  obtain ⟨y0, y1, y2⟩ := y.c3
  have gx := x.1
  have gy := y.1
  go_wp2_with fail
  refine (s_own f A c _ hl r).mono ?_
  rintro e w1 ⟨X, n, rfl, q, b1⟩
  clear x0 x1 x2 y0 y1 y2 gx gy
  replace x := x.below b1
  replace y := y.below b1
  replace z := z.below b1
  replace r := r.below b1
  have hbs := bb.size
  replace bb := bb.trans (b1.mono bb.size)
  have hb1 := b1.size
  have hql := q.lt
  have hsz := z.1.1
  clear b1
  obtain ⟨ob, ho⟩ : ∃ o : Obj, o = .cells #[.int .i64 f.upper, .int .i64 f.lower, .slice X f.rods.length n] 33 := ⟨_, rfl⟩
  have u : K.Box (w1.alloc ob) w1.heap.size [.int .i64 f.upper, .int .i64 f.lower, .slice X f.rods.length n] := by rw [ho]; exact K.Box.new _ _ _
  replace x := x.alloc ob
  replace y := y.alloc ob
  replace z := z.alloc ob
  replace r := r.alloc ob
  replace q := q.alloc ob
  replace bb := bb.alloc bb.size ob
  subst ho
  obtain ⟨ga, oa, eA, hga, ca, cb⟩ := r.rod hkl
  subst eA
  generalize f.rods[k].1 = a at *
  generalize f.rods[k].2 = b at *
  skip
  obtain ⟨ob, ho⟩ : ∃ o : Obj, o = .cells #[.int .i64 a, .int .i64 b] 74 := ⟨_, rfl⟩
  have v : K.Box ((w1.alloc (.cells #[.int .i64 f.upper, .int .i64 f.lower, .slice X f.rods.length n] 33)).alloc ob) (w1.heap.size + 1) [.int .i64 a, .int .i64 b] := by have h := K.Box.new (w1.alloc (.cells #[.int .i64 f.upper, .int .i64 f.lower, .slice X f.rods.length n] 33)) #[.int .i64 a, .int .i64 b] 74; rw [World.size_alloc] at h; rw [ho]; exact h
  obtain ⟨x0, x1, x2⟩ := x.c3
  obtain ⟨y0, y1, y2⟩ := y.c3
  obtain ⟨u0, u1, u2⟩ := u.c3
  have gx := x.1
  have gy := y.1
  go_upto_region 5 with fail
  clear x0 x1 x2 y0 y1 y2 u0 u1 u2 gx gy
  clear ca cb
  replace x := x.alloc ob
  replace y := y.alloc ob
  replace z := z.alloc ob
  replace r := r.alloc ob
  replace q := q.alloc ob
  replace u := u.alloc ob
  replace bb := bb.alloc bb.size ob
  subst ho
  obtain ⟨V, hV⟩ : ∃ V, V = (w1.alloc (.cells #[.int .i64 f.upper, .int .i64 f.lower, .slice X f.rods.length n] 33)).alloc (.cells #[.int .i64 a, .int .i64 b] 74) := ⟨_, rfl⟩
  rw [← hV] at x y z r q u v bb
  rw [← hV]
  clear hV
  clear r
  obtain ⟨gq, eq, hg1, hg2, hf, d0, d1⟩ := q.rod hkl
  subst eq
  have hgw := hql gq rfl
  have hf0 := hf (k * 2)
  have hf1 := hf (k * 2 + 1)
  clear hf
  obtain ⟨v0, v1⟩ := v.c2
  have gv := v.1
  simp only [World.size_alloc] at hgw hb1 hbs hsz
  have hg3 : w.heap.size + 1 + 1 < gq := by omega
  have hg4 : gq < w1.heap.size := by omega
  obtain ⟨x0, x1, x2⟩ := x.c3
  obtain ⟨y0, y1, y2⟩ := y.c3
  obtain ⟨u0, u1, u2⟩ := u.c3
  have gx := x.1
  have gy := y.1
  by_cases hpt : part = 0
  · have t0 : (part == 0) = true := by rw [beq_iff_eq]; exact hpt
    obtain ⟨s, hs⟩ : ∃ s, s = IntKind.i64.wrap (a + pby) := ⟨_, rfl⟩
    have hsw := hs.symm
    clear hs
    go_upto_region 8 with fail
    have q2 := row_setRod q hkl (s) (b)
    have zs := (z.setOther (p := ⟨gq, k * 2, none⟩) (by simp only; omega) (.int .i64 (s))).setOther (p := ⟨gq, k * 2 + 1, none⟩) (by simp only; omega) (.int .i64 (b))
    have us := (u.setOther (p := ⟨gq, k * 2, none⟩) (by simp only; omega) (.int .i64 (s))).setOther (p := ⟨gq, k * 2 + 1, none⟩) (by simp only; omega) (.int .i64 (b))
    have bbs := (bb.setCell (p := ⟨gq, k * 2, none⟩) (by simp only; omega) (.int .i64 (s))).setCell (p := ⟨gq, k * 2 + 1, none⟩) (by simp only; omega) (.int .i64 (b))
    obtain ⟨V2, hV2⟩ : ∃ V2, V2 = (V.setCell ⟨gq, k * 2, none⟩ (.int .i64 (s))).setCell ⟨gq, k * 2 + 1, none⟩ (.int .i64 (b)) := ⟨_, rfl⟩
    rw [← hV2] at q2 zs us bbs
    try rw [← hV2]
    clear hV2
    have hln : (f.rods.set k (s, b)).length = f.rods.length := List.length_set
    generalize f.rods.set k (s, b) = L at *
    clear x0 x1 x2 y0 y1 y2 u0 u1 u2 gx gy v0 v1 gv hf0 hf1 x y u z v q bb
    have HG := Lib.hid (fun w h => Frame.s_good ⟨f.upper, f.lower, L⟩ (some ⟨gq, 0, none⟩) n w (by show L.length ≤ _; omega) h)
    dsimp only at HG
    rw [hln] at HG
    have q3 := q2
    rw [hln] at q3
    obtain ⟨u0, u1, u2⟩ := us.c3
    have gu := us.1
    go_wp2_with fail
    refine (HG.out _ q3.rd).mono ?_
    rintro e w5 ⟨rfl, b5⟩
    clear u0 u1 u2 gu HG
    replace q2 := q2.below b5
    replace zs := zs.below b5
    replace us := us.below b5
    have bb := bbs.trans (b5.mono bbs.size)
    clear b5 q3 bbs
    obtain ⟨z0, z1, z2, z3, z4, z5, z6⟩ := zs.c3
    obtain ⟨u0, u1, u2⟩ := us.c3
    have gu := us.1
    cases hok : M.Frame.ok ⟨f.upper, f.lower, L⟩ with
    | false =>
      go_wp2_with fail
      exact bodyPost_ret (v := .tuple #[.agg #[.int .i64 0, .int .i64 0, .slice none 0 0], .bool false]) (by simp [results, Try.results117, go_sem, *]) rfl ⟨⟨0, 0, []⟩, none, 0, false, rfl, (fun h => by cases h), K.Rd.nil _ _ _, (fun q hq => by simp [K.blk] at hq), by (repeat (first | exact Below.refl _ _ | assumption | (refine K.below_drewN ?_ _) | (refine Below.drew ?_) | (refine Below.alloc ?_ (by first | (simp; done) | (simp; omega) | omega) _) | (refine Below.setCell ?_ (by first | (simp; done) | (simp; omega) | omega) _)))⟩
    | true =>
      replace q2 := q2.setOther (p := ⟨w.heap.size + 1 + 1, 0, none⟩) (by simp only [World.size_alloc]; omega) (.int .i64 f.upper)
      replace bb := bb.setCell (p := ⟨w.heap.size + 1 + 1, 0, none⟩) (by simp; try omega) (.int .i64 f.upper)
      replace q2 := q2.setOther (p := ⟨w.heap.size + 1 + 1, 1, none⟩) (by simp only [World.size_alloc]; omega) (.int .i64 f.lower)
      replace bb := bb.setCell (p := ⟨w.heap.size + 1 + 1, 1, none⟩) (by simp; try omega) (.int .i64 f.lower)
      replace q2 := q2.setOther (p := ⟨w.heap.size + 1 + 1, 2, none⟩) (by simp only [World.size_alloc]; omega) (.slice (some ⟨gq, 0, none⟩) f.rods.length n)
      replace bb := bb.setCell (p := ⟨w.heap.size + 1 + 1, 2, none⟩) (by simp; try omega) (.slice (some ⟨gq, 0, none⟩) f.rods.length n)
      go_wp2_with fail
      exact bodyPost_ret (v := .tuple #[.agg #[.int .i64 f.upper, .int .i64 f.lower, .slice (some ⟨gq, 0, none⟩) f.rods.length n], .bool true]) (by simp [results, Try.results117, go_sem, *]) rfl ⟨⟨f.upper, f.lower, L⟩, some ⟨gq, 0, none⟩, n, true, (by dsimp only; rw [hln]), (fun _ => hln), q2.rd, (fun q hq => by simp [K.blk] at hq; omega), bb⟩
  · have t0 : (part == 0) = false := by rw [beq_eq_false_iff_ne]; exact hpt
    obtain ⟨s, hs⟩ : ∃ s, s = IntKind.i64.wrap (b + pby) := ⟨_, rfl⟩
    have hsw := hs.symm
    clear hs
    go_upto_region 8 with fail
    have q2 := row_setRod q hkl (a) (s)
    have zs := (z.setOther (p := ⟨gq, k * 2, none⟩) (by simp only; omega) (.int .i64 (a))).setOther (p := ⟨gq, k * 2 + 1, none⟩) (by simp only; omega) (.int .i64 (s))
    have us := (u.setOther (p := ⟨gq, k * 2, none⟩) (by simp only; omega) (.int .i64 (a))).setOther (p := ⟨gq, k * 2 + 1, none⟩) (by simp only; omega) (.int .i64 (s))
    have bbs := (bb.setCell (p := ⟨gq, k * 2, none⟩) (by simp only; omega) (.int .i64 (a))).setCell (p := ⟨gq, k * 2 + 1, none⟩) (by simp only; omega) (.int .i64 (s))
    obtain ⟨V2, hV2⟩ : ∃ V2, V2 = (V.setCell ⟨gq, k * 2, none⟩ (.int .i64 (a))).setCell ⟨gq, k * 2 + 1, none⟩ (.int .i64 (s)) := ⟨_, rfl⟩
    rw [← hV2] at q2 zs us bbs
    try rw [← hV2]
    clear hV2
    have hln : (f.rods.set k (a, s)).length = f.rods.length := List.length_set
    generalize f.rods.set k (a, s) = L at *
    clear x0 x1 x2 y0 y1 y2 u0 u1 u2 gx gy v0 v1 gv hf0 hf1 x y u z v q bb
    have HG := Lib.hid (fun w h => Frame.s_good ⟨f.upper, f.lower, L⟩ (some ⟨gq, 0, none⟩) n w (by show L.length ≤ _; omega) h)
    dsimp only at HG
    rw [hln] at HG
    have q3 := q2
    rw [hln] at q3
    obtain ⟨u0, u1, u2⟩ := us.c3
    have gu := us.1
    go_wp2_with fail
    refine (HG.out _ q3.rd).mono ?_
    rintro e w5 ⟨rfl, b5⟩
    clear u0 u1 u2 gu HG
    replace q2 := q2.below b5
    replace zs := zs.below b5
    replace us := us.below b5
    have bb := bbs.trans (b5.mono bbs.size)
    clear b5 q3 bbs
    obtain ⟨z0, z1, z2, z3, z4, z5, z6⟩ := zs.c3
    obtain ⟨u0, u1, u2⟩ := us.c3
    have gu := us.1
    cases hok : M.Frame.ok ⟨f.upper, f.lower, L⟩ with
    | false =>
      go_wp2_with fail
      exact bodyPost_ret (v := .tuple #[.agg #[.int .i64 0, .int .i64 0, .slice none 0 0], .bool false]) (by simp [results, Try.results117, go_sem, *]) rfl ⟨⟨0, 0, []⟩, none, 0, false, rfl, (fun h => by cases h), K.Rd.nil _ _ _, (fun q hq => by simp [K.blk] at hq), by (repeat (first | exact Below.refl _ _ | assumption | (refine K.below_drewN ?_ _) | (refine Below.drew ?_) | (refine Below.alloc ?_ (by first | (simp; done) | (simp; omega) | omega) _) | (refine Below.setCell ?_ (by first | (simp; done) | (simp; omega) | omega) _)))⟩
    | true =>
      replace q2 := q2.setOther (p := ⟨w.heap.size + 1 + 1, 0, none⟩) (by simp only [World.size_alloc]; omega) (.int .i64 f.upper)
      replace bb := bb.setCell (p := ⟨w.heap.size + 1 + 1, 0, none⟩) (by simp; try omega) (.int .i64 f.upper)
      replace q2 := q2.setOther (p := ⟨w.heap.size + 1 + 1, 1, none⟩) (by simp only [World.size_alloc]; omega) (.int .i64 f.lower)
      replace bb := bb.setCell (p := ⟨w.heap.size + 1 + 1, 1, none⟩) (by simp; try omega) (.int .i64 f.lower)
      replace q2 := q2.setOther (p := ⟨w.heap.size + 1 + 1, 2, none⟩) (by simp only [World.size_alloc]; omega) (.slice (some ⟨gq, 0, none⟩) f.rods.length n)
      replace bb := bb.setCell (p := ⟨w.heap.size + 1 + 1, 2, none⟩) (by simp; try omega) (.slice (some ⟨gq, 0, none⟩) f.rods.length n)
      go_wp2_with fail
      exact bodyPost_ret (v := .tuple #[.agg #[.int .i64 f.upper, .int .i64 f.lower, .slice (some ⟨gq, 0, none⟩) f.rods.length n], .bool true]) (by simp [results, Try.results117, go_sem, *]) rfl ⟨⟨f.upper, f.lower, L⟩, some ⟨gq, 0, none⟩, n, true, (by dsimp only; rw [hln]), (fun _ => hln), q2.rd, (fun q hq => by simp [K.blk] at hq; omega), bb⟩
set_option maxRecDepth 100000 in
set_option maxHeartbeats 4000000 in
theorem s_move (f : M.Frame) (A : Option Addr) (c : Nat) (p : M.Move) (w : World) (hl : f.rods.length ≤ 1048576) (ha : K.Rd w 2 A f.rods.length (f.rods.flatMap M.rodCells)) :
    Calls Try.prog 113 #[.agg #[.int .i64 f.upper, .int .i64 f.lower, .slice A f.rods.length c], .agg #[.int .i64 p.rod, .int .i64 p.part, .int .i64 p.by_]] w (RetFB w f.rods.length) := by
  obtain ⟨o0, ho0⟩ : ∃ o : Obj, o = .cells #[.int .i64 f.upper, .int .i64 f.lower, .slice A f.rods.length c] 33 := ⟨_, rfl⟩
  obtain ⟨o1, ho1⟩ : ∃ o : Obj, o = .cells #[.int .i64 p.rod, .int .i64 p.part, .int .i64 p.by_] 25 := ⟨_, rfl⟩
  obtain ⟨o2, ho2⟩ : ∃ o : Obj, o = .cells #[.int .i64 0, .int .i64 0, .slice none 0 0] 33 := ⟨_, rfl⟩
  have x : K.Box (((w.alloc o0).alloc o1).alloc o2) (w.heap.size) [.int .i64 f.upper, .int .i64 f.lower, .slice A f.rods.length c] := by have h := K.Box.new w #[.int .i64 f.upper, .int .i64 f.lower, .slice A f.rods.length c] 33; rw [← ho0] at h; exact ((h.alloc _).alloc _)
  have y : K.Box (((w.alloc o0).alloc o1).alloc o2) (w.heap.size + 1) [.int .i64 p.rod, .int .i64 p.part, .int .i64 p.by_] := by have h := K.Box.new (w.alloc o0) #[.int .i64 p.rod, .int .i64 p.part, .int .i64 p.by_] 25; simp only [World.size_alloc] at h; rw [← ho1] at h; exact (h.alloc _)
  have z : K.Own (((w.alloc o0).alloc o1).alloc o2) (w.heap.size + 1 + 1) [.int .i64 0, .int .i64 0, .slice none 0 0] := by have h := K.Own.new ((w.alloc o0).alloc o1) #[.int .i64 0, .int .i64 0, .slice none 0 0] 33; simp only [World.size_alloc] at h; rw [← ho2] at h; exact h
  have r : K.Rd (((w.alloc o0).alloc o1).alloc o2) 2 A f.rods.length (f.rods.flatMap M.rodCells) := ((ha.alloc _).alloc _).alloc _
  have bb : Below w.heap.size w (((w.alloc o0).alloc o1).alloc o2) := by (repeat (first | exact Below.refl _ _ | assumption | (refine K.below_drewN ?_ _) | (refine Below.drew ?_) | (refine Below.alloc ?_ (by first | (simp; done) | (simp; omega) | omega) _) | (refine Below.setCell ?_ (by first | (simp; done) | (simp; omega) | omega) _)))
  subst ho0 ho1 ho2
  clear ha
  have HG := Lib.hid (fun w h => Frame.s_good f A c w hl h)
  have HO := Lib.hid (fun w => MoveF.s_one p w)
  cases hok : f.ok with
  | false =>
    rw [hok] at HG
    go_enter Try.func113, Try.ntmps113
    obtain ⟨x0, x1, x2⟩ := x.c3
    obtain ⟨y0, y1, y2⟩ := y.c3
    have gx := x.1
    have gy := y.1
    go_wp2_with fail
    refine (HG.out _ r).mono ?_
    rintro e w1 ⟨rfl, b1⟩
    clear x0 x1 x2 y0 y1 y2 gx gy
    replace x := x.below b1
    replace y := y.below b1
    replace z := z.below b1
    replace r := r.below b1
    replace bb := bb.trans (b1.mono bb.size)
    clear b1
    obtain ⟨z0, z1, z2, z3, z4, z5, z6⟩ := z.c3
    have gx := x.1
    have gy := y.1
    clear x y
    go_wp2_with fail
    exact bodyPost_ret (v := .tuple #[.agg #[.int .i64 0, .int .i64 0, .slice none 0 0], .bool false]) (by simp [results, Try.results113, go_sem, *]) rfl ⟨⟨0, 0, []⟩, none, 0, false, rfl, (fun h => by cases h), K.Rd.nil _ _ _, (fun q hq => by simp [K.blk] at hq), by (repeat (first | exact Below.refl _ _ | assumption | (refine K.below_drewN ?_ _) | (refine Below.drew ?_) | (refine Below.alloc ?_ (by first | (simp; done) | (simp; omega) | omega) _) | (refine Below.setCell ?_ (by first | (simp; done) | (simp; omega) | omega) _)))⟩
  | true =>
    cases hpk : p.ok with
    | false =>
      rw [hok] at HG
      go_enter Try.func113, Try.ntmps113
      obtain ⟨x0, x1, x2⟩ := x.c3
      obtain ⟨y0, y1, y2⟩ := y.c3
      have gx := x.1
      have gy := y.1
      go_wp2_with fail
      refine (HG.out _ r).mono ?_
      rintro e w1 ⟨rfl, b1⟩
      clear x0 x1 x2 y0 y1 y2 gx gy
      replace x := x.below b1
      replace y := y.below b1
      replace z := z.below b1
      replace r := r.below b1
      replace bb := bb.trans (b1.mono bb.size)
      clear b1
      rw [hpk] at HO
      obtain ⟨x0, x1, x2⟩ := x.c3
      obtain ⟨y0, y1, y2⟩ := y.c3
      have gx := x.1
      have gy := y.1
      go_wp2_with fail
      refine (HO.out _).mono ?_
      rintro e w2 ⟨rfl, b2⟩
      clear x0 x1 x2 y0 y1 y2 gx gy
      replace x := x.below b2
      replace y := y.below b2
      replace z := z.below b2
      replace r := r.below b2
      replace bb := bb.trans (b2.mono bb.size)
      clear b2
      obtain ⟨z0, z1, z2, z3, z4, z5, z6⟩ := z.c3
      have gx := x.1
      have gy := y.1
      clear x y
      go_wp2_with fail
      exact bodyPost_ret (v := .tuple #[.agg #[.int .i64 0, .int .i64 0, .slice none 0 0], .bool false]) (by simp [results, Try.results113, go_sem, *]) rfl ⟨⟨0, 0, []⟩, none, 0, false, rfl, (fun h => by cases h), K.Rd.nil _ _ _, (fun q hq => by simp [K.blk] at hq), by (repeat (first | exact Below.refl _ _ | assumption | (refine K.below_drewN ?_ _) | (refine Below.drew ?_) | (refine Below.alloc ?_ (by first | (simp; done) | (simp; omega) | omega) _) | (refine Below.setCell ?_ (by first | (simp; done) | (simp; omega) | omega) _)))⟩
    | true =>
      have hrod := ((M.Move.ok_iff p).1 hpk).1.1
      have HM := Lib.hid (fun w h => s_make f A c p w hl hrod h)
      rw [hok] at HG
      go_enter Try.func113, Try.ntmps113
      obtain ⟨x0, x1, x2⟩ := x.c3
      obtain ⟨y0, y1, y2⟩ := y.c3
      have gx := x.1
      have gy := y.1
      go_wp2_with fail
      refine (HG.out _ r).mono ?_
      rintro e w1 ⟨rfl, b1⟩
      clear x0 x1 x2 y0 y1 y2 gx gy
      replace x := x.below b1
      replace y := y.below b1
      replace z := z.below b1
      replace r := r.below b1
      replace bb := bb.trans (b1.mono bb.size)
      clear b1
      rw [hpk] at HO
      obtain ⟨x0, x1, x2⟩ := x.c3
      obtain ⟨y0, y1, y2⟩ := y.c3
      have gx := x.1
      have gy := y.1
      go_wp2_with fail
      refine (HO.out _).mono ?_
      rintro e w2 ⟨rfl, b2⟩
      clear x0 x1 x2 y0 y1 y2 gx gy
      replace x := x.below b2
      replace y := y.below b2
      replace z := z.below b2
      replace r := r.below b2
      replace bb := bb.trans (b2.mono bb.size)
      clear b2
      obtain ⟨x0, x1, x2⟩ := x.c3
      obtain ⟨y0, y1, y2⟩ := y.c3
      have gx := x.1
      have gy := y.1
      go_wp2_with fail
      refine (HM.out _ r).mono ?_
      rintro e w3 ⟨f2, X, m, b, rfl, hb, hr, hblk, b3⟩
      clear x0 x1 x2 y0 y1 y2 gx gy
      have hsz := z.1.1
      replace z := z.below b3
      have hbz := bb.size
      replace bb := bb.trans (b3.mono bb.size)
      have hs3 := b3.size
      clear b3 x y r
      obtain ⟨ob, ho⟩ : ∃ o : Obj, o = .cells #[.int .i64 f2.upper, .int .i64 f2.lower, .slice X f2.rods.length m] 33 := ⟨_, rfl⟩
      have u : K.Box (w3.alloc ob) w3.heap.size [.int .i64 f2.upper, .int .i64 f2.lower, .slice X f2.rods.length m] := by rw [ho]; exact K.Box.new _ _ _
      replace z := z.alloc ob
      replace hr := hr.alloc ob
      replace bb := bb.alloc bb.size ob
      subst ho
      obtain ⟨z0, z1, z2, z3, z4, z5, z6⟩ := z.c3
      obtain ⟨u0, u1, u2⟩ := u.c3
      have gu := u.1
      replace hr := hr.setOther (p := ⟨w.heap.size + 1 + 1, 0, none⟩) (fun q hq => by have := hblk q hq; simp only; omega) (.int .i64 f2.upper)
      replace bb := bb.setCell (p := ⟨w.heap.size + 1 + 1, 0, none⟩) (by simp; try omega) (.int .i64 f2.upper)
      replace hr := hr.setOther (p := ⟨w.heap.size + 1 + 1, 1, none⟩) (fun q hq => by have := hblk q hq; simp only; omega) (.int .i64 f2.lower)
      replace bb := bb.setCell (p := ⟨w.heap.size + 1 + 1, 1, none⟩) (by simp; try omega) (.int .i64 f2.lower)
      replace hr := hr.setOther (p := ⟨w.heap.size + 1 + 1, 2, none⟩) (fun q hq => by have := hblk q hq; simp only; omega) (.slice X f2.rods.length m)
      replace bb := bb.setCell (p := ⟨w.heap.size + 1 + 1, 2, none⟩) (by simp; try omega) (.slice X f2.rods.length m)
      go_wp2_with fail
      exact bodyPost_ret (v := .tuple #[.agg #[.int .i64 f2.upper, .int .i64 f2.lower, .slice X f2.rods.length m], .bool b]) (by simp [results, Try.results113, go_sem, *]) rfl ⟨f2, X, m, b, rfl, hb, hr, (fun q hq => by have := hblk q hq; omega), bb⟩
end Go.Proofs.Ythlkdaogmcjlbaa.MoveC
