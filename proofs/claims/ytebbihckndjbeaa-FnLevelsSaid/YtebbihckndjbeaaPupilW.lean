/-
  Walks: a copy of a list of pupils in which one pupil is changed.
-/
import Derived.Test.YtebbihckndjbeaaPupilA
set_option linter.unusedVariables false
namespace Go.Proofs.Ytebbihckndjbeaa.M
theorem flat_set {α β : Type} (f : α → List β) (m : Nat) (hf : ∀ a, (f a).length = m) (j : Nat) (hj : j < m) (v : β) (a' : α) :
    ∀ (l : List α) (k : Nat) (hk : k < l.length), (f l[k]).set j v = f a' → (l.flatMap f).set (k * m + j) v = (l.set k a').flatMap f
  | x :: xs, 0, _, h => by
      rw [List.flatMap_cons, List.set_cons_zero, List.flatMap_cons, Nat.zero_mul, Nat.zero_add, List.set_append_left _ _ (by rw [hf]; exact hj)]
      rw [← h]; rfl
  | x :: xs, k + 1, hk, h => by
      have ih := flat_set f m hf j hj v a' xs k (by simpa using hk) (by simpa using h)
      rw [List.flatMap_cons, List.set_cons_succ, List.flatMap_cons, List.set_append_right _ _ (by rw [hf, Nat.succ_mul]; omega), ← ih]
      congr 2
      rw [hf, Nat.succ_mul]; omega
end Go.Proofs.Ytebbihckndjbeaa.M
namespace Go.Proofs.Ytebbihckndjbeaa.PupilW
open Go.RowKit
theorem cls_set (l : List M.Pupil) (k : Nat) (hk : k < l.length) (q : Int) : (l.flatMap M.pupilCells).set (k * 5 + 3) (.int .i64 q) = (M.withC l k q).flatMap M.pupilCells := by
  rw [M.withC_eq l k hk]
  exact M.flat_set M.pupilCells 5 (fun _ => rfl) 3 (by omega) _ _ l k hk rfl
theorem cells_one (l : List M.Pupil) : ∀ u ∈ l.flatMap M.pupilCells, u.oneCell' = true := by
  intro u hu
  obtain ⟨p, _, hp⟩ := List.mem_flatMap.1 hu
  simp [M.pupilCells] at hp
  rcases hp with rfl | rfl | rfl | rfl | rfl <;> rfl
theorem infoPup : (Try.prog.info? 26).map (fun i => (i.zero, i.size, i.bytes)) = some (some (.agg #[.int .i64 0, .string ByteArray.empty, .int .i64 0, .int .i64 0, .int .i64 0]), 5, 48) := by kernel_rfl
theorem names_withC {l : List M.Pupil} (hs : ∀ p ∈ l, p.name.size ≤ 9223372036854775807) {k : Nat} (hk : k < l.length) (q : Int) : ∀ p ∈ M.withC l k q, p.name.size ≤ 9223372036854775807 := by
  intro p hp
  rw [M.withC_eq l k hk] at hp
  rcases List.mem_or_eq_of_mem_set hp with h | rfl
  · exact hs p h
  · exact (show l[k].name.size ≤ 9223372036854775807 from hs _ (List.getElem_mem hk))
set_option maxHeartbeats 2000000 in
theorem i_with (A : Option Addr) (c : Nat) (l : List M.Pupil) (k : Nat) (q : Int) (w : World) (hl : l.length ≤ 1048576) (hs : ∀ p ∈ l, p.name.size ≤ 9223372036854775807) (hk : k < l.length) (ha : K.Rd w 5 A l.length (l.flatMap M.pupilCells)) :
    Calls Try.prog 69 #[.slice A l.length c, .int .i64 (k : Int), .int .i64 q] w (K.RetRowB w 26 5 l.length ((M.withC l k q).flatMap M.pupilCells) (M.pupsOk (M.withC l k q))) := by
  obtain ⟨i0, hi0, hz0, hz1, hz2⟩ := info_parts infoPup
  have e0 : K.Row (w.alloc (.cells #[] 26)) w.heap.size 26 5 (some ⟨w.heap.size, 0, none⟩) 0 0 [] := World.ownsRow_made w #[] 0 (Nat.le_refl _) (Nat.zero_le _) rfl
  have b0 : Below w.heap.size w (w.alloc (.cells #[] 26)) := (Below.refl _ _).alloc (Nat.le_refl _) _
  have r0 := ha.below b0
  have HC := Lib.hid (cls_set l k hk q)
  have HI : Hid (∀ (A' : Option Addr) (c' : Nat) (w' : World), K.Rd w' 5 A' l.length ((M.withC l k q).flatMap M.pupilCells) → Calls Try.prog 40 #[.slice A' l.length c'] w' fun e w2 => e = .returned (.bool (M.pupsOk (M.withC l k q))) ∧ Below w'.heap.size w' w2) := Lib.hid fun A' c' w' h => by
    have hn := M.withC_len l k q
    have h2 := PupilG.i_are A' c' (M.withC l k q) w' (by omega) (names_withC hs hk q) (by rw [hn]; exact h)
    rwa [hn] at h2
  generalize M.withC l k q = L at *
  generalize M.pupsOk L = R at *
  have h1 : (k : Int) < (l.length : Int) := by omega
  have h2 : (0 : Int) ≤ (k : Int) := by omega
  go_enter Try.func69, Try.ntmps69
  go_wp2_with (at_builtin; refine K.appendN rfl (.tmp 9) (.tmp 10) _ rfl w.heap.size _ i0 _ 5 48 Try.underlying31 hi0 hz0 hz1 hz2 rfl (by omega) (some ⟨w.heap.size, 0, none⟩) 0 0 [] (by simp [go_sem]) e0 A l.length c _ rfl r0 (cells_one l) (by simp only [maxLen]; omega) (by omega) (by simp) ?_; intro A' c' w2 hrow hb _ _; rw [Nat.zero_add, List.nil_append] at hrow; rw [Nat.zero_add]; obtain ⟨gx, hA, gx1, gx2, hfz, d0, d1, d2, d3, d4⟩ := hrow.pupil hk; subst hA; have hf3 := hfz (k * 5 + 3); have HROW := Lib.hid hrow; have HB := Lib.hid (b0.trans hb); have HR3 := Lib.hid (show K.Row (w2.setCell ⟨gx, k * 5 + 3, none⟩ (.int .i64 q)) w.heap.size 26 5 (some ⟨gx, 0, none⟩) l.length c' (L.flatMap M.pupilCells) by rw [← HC.out]; exact (HROW.out.set_ (k * 5 + 3) _).1); have HB3 := Lib.hid (HB.out.setCell (p := ⟨gx, k * 5 + 3, none⟩) (by simp; omega) (.int .i64 q)); clear hrow hb d0 d1 d2 d4 hfz)
  refine (HI.out _ _ _ HR3.out.rd).mono ?_
  rintro e w3 ⟨rfl, b3⟩
  go_wp2_with fail
  go_ret2
  exact ⟨some ⟨gx, 0, none⟩, c', rfl, HR3.out.below b3, HB3.out.trans (b3.mono HB3.out.size)⟩
end Go.Proofs.Ytebbihckndjbeaa.PupilW
