/-
  Walks: a copy of a list of pupils in which one pupil has another class and level (the reference's l3With).
-/
import Derived.Test.YtebbihckndjbeaaPupilW
import Derived.Test.YtebbihckndjbeaaPupilN
set_option linter.unusedVariables false
namespace Go.Proofs.Ytebbihckndjbeaa.M
def withCL (l : List Pupil) (k : Nat) (q v : Int) : List Pupil := match l[k]? with | none => l | some p => l.set k ⟨p.id, p.name, p.born, q, v⟩
theorem withCL_eq (l : List Pupil) (k : Nat) (h : k < l.length) (q v : Int) : withCL l k q v = l.set k ⟨l[k].id, l[k].name, l[k].born, q, v⟩ := by simp [withCL, h]
theorem withCL_len (l : List Pupil) (k : Nat) (q v : Int) : (withCL l k q v).length = l.length := by unfold withCL; split <;> simp
theorem withCL_withC (l : List Pupil) (k : Nat) (h : k < l.length) (q : Int) : withCL l k q l[k].level = withC l k q := by rw [withCL_eq l k h, withC_eq l k h]; rfl
theorem withCL_up (l : List Pupil) (k : Nat) (h : k < l.length) : withCL l k l[k].cls (l[k].level + 1) = upAt l k := by rw [withCL_eq l k h, upAt_eq l k h]; rfl
theorem withCL_up0 (l : List Pupil) (k : Nat) (h : k < l.length) : withCL l k 0 (l[k].level + 1) = withC (upAt l k) k 0 := by
  have e : upAt l k = l.set k l[k].up := upAt_eq l k h
  rw [withCL_eq l k h, e, withC_eq _ k (by simpa using h), List.getElem_set_self, List.set_set]; rfl
theorem names_withCL {l : List Pupil} (hs : ∀ p ∈ l, p.name.size ≤ 9223372036854775807) {k : Nat} (hk : k < l.length) (q v : Int) : ∀ p ∈ withCL l k q v, p.name.size ≤ 9223372036854775807 := by
  intro p hp
  rw [withCL_eq l k hk] at hp
  rcases List.mem_or_eq_of_mem_set hp with h | rfl
  · exact hs p h
  · exact (show l[k].name.size ≤ 9223372036854775807 from hs _ (List.getElem_mem hk))
/-- all five cells of one pupil written. -/
theorem five_set (l : List Pupil) (k : Nat) (hk : k < l.length) (p : Pupil) :
    (((((l.flatMap pupilCells).set (k * 5) (.int .i64 p.id)).set (k * 5 + 1) (.string p.name)).set (k * 5 + 2) (.int .i64 p.born)).set (k * 5 + 3) (.int .i64 p.cls)).set (k * 5 + 4) (.int .i64 p.level) = (l.set k p).flatMap pupilCells := by
  have st : ∀ (m : List Pupil) (hm : k < m.length) (j : Nat) (hj : j < 5) (v : Value) (a : Pupil), (pupilCells m[k]).set j v = pupilCells a → (m.flatMap pupilCells).set (k * 5 + j) v = (m.set k a).flatMap pupilCells :=
    fun m hm j hj v a h => flat_set pupilCells 5 (fun _ => rfl) j hj v a m k hm h
  have s0 := st l hk 0 (by omega) (.int .i64 p.id) ⟨p.id, l[k].name, l[k].born, l[k].cls, l[k].level⟩ rfl
  have s1 := st (l.set k ⟨p.id, l[k].name, l[k].born, l[k].cls, l[k].level⟩) (by simpa using hk) 1 (by omega) (.string p.name) ⟨p.id, p.name, l[k].born, l[k].cls, l[k].level⟩ (by rw [List.getElem_set_self]; rfl)
  have s2 := st (l.set k ⟨p.id, p.name, l[k].born, l[k].cls, l[k].level⟩) (by simpa using hk) 2 (by omega) (.int .i64 p.born) ⟨p.id, p.name, p.born, l[k].cls, l[k].level⟩ (by rw [List.getElem_set_self]; rfl)
  have s3 := st (l.set k ⟨p.id, p.name, p.born, l[k].cls, l[k].level⟩) (by simpa using hk) 3 (by omega) (.int .i64 p.cls) ⟨p.id, p.name, p.born, p.cls, l[k].level⟩ (by rw [List.getElem_set_self]; rfl)
  have s4 := st (l.set k ⟨p.id, p.name, p.born, p.cls, l[k].level⟩) (by simpa using hk) 4 (by omega) (.int .i64 p.level) ⟨p.id, p.name, p.born, p.cls, p.level⟩ (by rw [List.getElem_set_self]; rfl)
  rw [Nat.add_zero] at s0
  rw [List.set_set] at s1 s2 s3 s4
  rw [s0, s1, s2, s3, s4]
end Go.Proofs.Ytebbihckndjbeaa.M
namespace Go.Proofs.Ytebbihckndjbeaa.PupilX
open Go.RowKit
set_option maxRecDepth 100000 in
set_option maxHeartbeats 2000000 in
theorem s_with (A : Option Addr) (c : Nat) (l : List M.Pupil) (k : Nat) (q v : Int) (w : World) (hl : l.length ≤ 1048576) (hk : k < l.length) (ha : K.Rd w 5 A l.length (l.flatMap M.pupilCells)) :
    Calls Try.prog 72 #[.slice A l.length c, .int .i64 (k : Int), .int .i64 q, .int .i64 v] w (K.RetRow w 26 5 l.length ((M.withCL l k q v).flatMap M.pupilCells)) := by
  obtain ⟨i0, hi0, hz0, hz1, hz2⟩ := info_parts PupilW.infoPup
  have e0 : K.Row (w.alloc (.cells #[] 26)) w.heap.size 26 5 (some ⟨w.heap.size, 0, none⟩) 0 0 [] := World.ownsRow_made w #[] 0 (Nat.le_refl _) (Nat.zero_le _) rfl
  have b0 : Below w.heap.size w (w.alloc (.cells #[] 26)) := (Below.refl _ _).alloc (Nat.le_refl _) _
  have r0 := ha.below b0
  have HC := Lib.hid (M.five_set l k hk ⟨l[k].id, l[k].name, l[k].born, q, v⟩)
  rw [← M.withCL_eq l k hk] at HC
  dsimp only at HC
  generalize M.withCL l k q v = L at *
  have h1 : (k : Int) < (l.length : Int) := by omega
  have h2 : (0 : Int) ≤ (k : Int) := by omega
  go_enter Try.func72, Try.ntmps72
  go_wp2_with (at_builtin; refine K.appendN rfl (.tmp 11) (.tmp 12) _ rfl w.heap.size _ i0 _ 5 48 Try.underlying31 hi0 hz0 hz1 hz2 rfl (by omega) (some ⟨w.heap.size, 0, none⟩) 0 0 [] (by simp [go_sem]) e0 A l.length c _ rfl r0 (PupilW.cells_one l) (by simp only [maxLen]; omega) (by omega) (by simp) ?_; intro A' c' w2 hrow hb _ _; rw [Nat.zero_add, List.nil_append] at hrow; rw [Nat.zero_add]; obtain ⟨gx, hA, gx1, gx2, hfz, d0, d1, d2, d3, d4⟩ := hrow.pupil hk; subst hA; have f0 := hfz (k * 5); have f1 := hfz (k * 5 + 1); have f2 := hfz (k * 5 + 2); have f3 := hfz (k * 5 + 3); have f4 := hfz (k * 5 + 4); have HROW := Lib.hid hrow; have hbw := b0.trans hb; clear hrow hb hfz; generalize l[k].id = x0 at *; generalize l[k].name = x1 at *; generalize l[k].born = x2 at *; generalize l[k].cls = x3 at *; generalize l[k].level = x4 at *)
  go_ret
  refine ⟨some ⟨gx, 0, none⟩, c', rfl, ?_, ?_⟩
  rotate_left
  · have hb := ((((hbw.setCell (p := ⟨gx, k * 5, none⟩) gx1 (.int .i64 x0)).setCell (p := ⟨gx, k * 5 + 1, none⟩) gx1 (.string x1)).setCell (p := ⟨gx, k * 5 + 2, none⟩) gx1 (.int .i64 x2)).setCell (p := ⟨gx, k * 5 + 3, none⟩) gx1 (.int .i64 q)).setCell (p := ⟨gx, k * 5 + 4, none⟩) gx1 (.int .i64 v)
    exact hb.alloc hb.size _
  have h := (((((HROW.out.set_ (k * 5) (.int .i64 x0)).1.set_ (k * 5 + 1) (.string x1)).1.set_ (k * 5 + 2) (.int .i64 x2)).1.set_ (k * 5 + 3) (.int .i64 q)).1.set_ (k * 5 + 4) (.int .i64 v)).1.alloc (.cells #[.int .i64 x0, .string x1, .int .i64 x2, .int .i64 q, .int .i64 v] 26)
  rw [HC.out] at h
  exact h
end Go.Proofs.Ytebbihckndjbeaa.PupilX
