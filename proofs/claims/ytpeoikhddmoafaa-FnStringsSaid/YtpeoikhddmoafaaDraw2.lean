/-
  Walks: the draw of texts to join: whatever the code, some texts of bounded size in a slice of its own.
-/
import Derived.Test.YtpeoikhddmoafaaDraw1
import Derived.Deep.DeepCutAuto
set_option linter.unusedVariables false
namespace Go.Proofs.Ytpeoikhddmoafaa.Draw1
open Go.RowKit
theorem infoU8 : (Try.prog.info? 5).map (fun i => (i.zero, i.size, i.bytes)) = some (some (.int .u8 0), 1, 1) := by kernel_rfl
theorem zeros (n : Nat) : (madeCells (Value.int .u8 0).cells (n * 1)).toList = (List.replicate n (0 : Int)).map (Value.int .u8) := by
  rw [show (Value.int .u8 0).cells = #[Value.int .u8 0] from rfl, toList_madeCells_one, Nat.mul_one, List.map_replicate]
set_option maxRecDepth 100000 in
set_option maxHeartbeats 2000000 in
theorem joins (A : Option Addr) (c : Nat) (l : List UInt8) (w : World) (hl : l.length ≤ 65536) (ha : K.Rd w 1 A l.length (l.map fun b => Value.int .u8 (b.toNat : Int))) :
    Calls Try.prog 37 #[.slice A l.length c] w fun e w' => ∃ (X : Option Addr) (n : Nat) (L : List ByteArray) (p : ByteArray), e = .returned (.tuple #[.slice X L.length n, .string p]) ∧ K.Row w' w.heap.size 9 1 X L.length n (L.map Value.string) ∧ L.length ≤ 4 ∧ (∀ x ∈ L, x.size ≤ 4010) ∧ p.size ≤ 20 ∧ Below w.heap.size w w' := by
  obtain ⟨i0, hi0, hz0, hz1, hz2⟩ := info_parts Spl.infoStr
  obtain ⟨i1, hi1, hy0, hy1, hy2⟩ := info_parts infoU8
  have hc := K.Cur.new (c := c) ha hl 58
  have b0 : Below w.heap.size w (w.alloc (.cells #[.slice A l.length c, .int .i64 0, .int .u64 0] 58)) := (Below.refl _ _).alloc (Nat.le_refl _) _
  have hsz : (w.alloc (.cells #[.slice A l.length c, .int .i64 0, .int .u64 0] 58)).heap.size = w.heap.size + 1 := World.size_alloc _ _
  generalize hW : w.alloc (.cells #[.slice A l.length c, .int .i64 0, .int .u64 0] 58) = W at hc b0 hsz
  have HC := Lib.hid hc
  have HC1 := Lib.hid (hc.alloc (.cells #[] 9))
  have B0 := Lib.hid (b0.alloc b0.size (.cells #[] 9))
  have hr1 : K.Row (W.alloc (.cells #[] 9)) (w.heap.size + 1) 9 1 (some ⟨W.heap.size, 0, none⟩) 0 0 [] := World.ownsRow_made W #[] 0 (by omega) (Nat.zero_le _) rfl
  rw [hsz] at hr1
  have HR1 := Lib.hid hr1
  clear hc b0 hr1
  go_enter Try.func37, Try.ntmps37
  go_upto_region 2 with fail
  clear hW
  go_wp2_with fail
  refine (Cur.pick _ _ _ _ 4 HC1.out (by omega)).mono ?_
  rintro e w1 ⟨x, rfl, ⟨x0, x1⟩, q1⟩
  obtain ⟨m, rfl⟩ := Int.eq_ofNat_of_zero_le x0
  have hm : m ≤ 3 := by omega
  have HC2 := Lib.hid q1.1
  have hr2 := HR1.out.kept q1.2 (fun g hg e => by have h1 := (HR1.out.lt g hg).1; injection e with e; omega)
  have HR2 := Lib.hid hr2
  have B1 := Lib.hid (B0.out.trans (q1.below (b := w.heap.size) B0.out.size (Nat.le_refl _)))
  clear q1 hr2 x0 x1
  go_wp2_with fail
  go_loopw [7, 5] (fun s o wr => ∃ (j : Nat) (L : List ByteArray) (X : Option Addr) (n : Nat), j ≤ m ∧ s = .int .i64 (j : Int) ∧ o = .slice X L.length n ∧ L.length ≤ j ∧ Hid (∀ x ∈ L, x.size ≤ 20) ∧ Hid (K.Row wr (w.heap.size + 1) 9 1 X L.length n (L.map Value.string)) ∧ Hid (K.Cur wr w.heap.size w.heap.size (2 + 2 * j)) ∧ Hid (Below w.heap.size w wr)) (fun s _ _ => m - (intOf s).toNat)
  case atStart => exact ⟨0, [], some ⟨w.heap.size + 1, 0, none⟩, 0, Nat.zero_le _, rfl, rfl, Nat.le_refl _, Lib.hid (by simp), HR2, Lib.hid (HC2.out.mono (by omega)), B1⟩
  case round =>
    obtain ⟨j, L, X, n, hj, rfl, rfl, hLj, HX, HR, HCu, HB⟩ := hrel
    have hszr := HB.out.size
    have hlt0 := HCu.out.lt
    by_cases hlt : j < m
    · have h1 : (j : Int) < (m : Int) := by omega
      have hd : decide ((j : Int) < (m : Int)) = true := decide_eq_true h1
      go_wp2_with fail
      refine (any1 _ _ _ _ HCu.out (by omega)).mono ?_
      rintro e w5 ⟨s, rfl, hs, q5⟩
      have hR5 := HR.out.kept q5.2 (fun g hg e => by have h1 := (HR.out.lt g hg).1; injection e with e; omega)
      have hB5 := HB.out.trans (q5.below (b := w.heap.size) hszr (Nat.le_refl _))
      have HR5 := Lib.hid hR5
      have HB5 := Lib.hid hB5
      have HC5 := Lib.hid q5.1
      have hlX := hR5.lt
      have HLX := Lib.hid hlX
      have hz5 : w.heap.size + 1 ≤ w5.heap.size := by have := q5.1.lt; omega
      have hj2 : L.length + 1 ≤ maxLen := by simp only [maxLen]; omega
      clear q5 hR5 hB5 hlX
      go_wp2_with (at_builtin; refine K.append1 rfl (.tmp 19) (.tmp 22) _ rfl (w.heap.size + 1) _ i0 _ 1 16 Try.underlying30 hi0 hz0 hz1 hz2 rfl (by omega) X L.length n _ rfl HR5.out #[.string s] rfl (by simp [Value.oneCell']) (by simp [go_sem]) hj2 (by omega) hz5 ?_; intro g' c' w6 hrow6 hb6 _ _ hg6; have HC6 := Lib.hid (HC5.out.kept hg6 (fun q hq => by have := (HLX.out q hq).1; omega) (fun e => by have := (HLX.out _ e).1; omega)); clear hg6)
      go_roundw
      case rel => exact ⟨j + 1, L ++ [s], some ⟨g', 0, none⟩, c', by omega, by go_num, by simp, by simp; omega, Lib.hid (fun x hx => by rcases List.mem_append.1 hx with h | h; exact HX.out x h; rw [List.mem_singleton.1 h]; exact hs), Lib.hid (by simpa using hrow6), Lib.hid (HC6.out.mono (by omega)), Lib.hid (HB5.out.trans (hb6.mono (by omega)))⟩
      case measure => simp [intOf]; omega
    · have hd : decide ((j : Int) < (m : Int)) = false := decide_eq_false (by omega)
      go_wp2_with fail
      refine (Cur.one _ _ _ _ 20 HCu.out (by omega)).mono ?_
      rintro e w7 ⟨b, rfl, q7⟩
      have hR7 := HR.out.kept q7.2 (fun g hg e => by have h1 := (HR.out.lt g hg).1; injection e with e; omega)
      have HR7 := Lib.hid hR7
      have HB7 := Lib.hid (HB.out.trans (q7.below (b := w.heap.size) hszr (Nat.le_refl _)))
      have HC7 := Lib.hid q7.1
      clear hR7 q7 HR HB HCu
      cases b with
      | false =>
        go_wp2_with fail
        refine (Cur.of _ _ _ _ (some ⟨w7.heap.size, 0, none⟩) 5 sepJ (HC7.out.alloc _) (by omega) (by decide) (K.Rd.new w7 _ _ 5 1 rfl) (fun e => by have := HC7.out.lt; simp [K.blk] at e; omega)).mono ?_
        rintro e w8 ⟨p, rfl, hp, qz⟩
        have qz2 := K.Went.alloc _ qz
        go_wp2_with fail
        go_ret2
        exact ⟨X, n, L, p, by first | rfl | simp, (HR7.out.kept qz2.2 (fun g hg e => by have h1 := (HR7.out.lt g hg).1; injection e with e; omega)).more (by omega), by first | omega | (simp; omega), (fun x hx => by have := HX.out x hx; omega), sepJ_size p hp, HB7.out.trans (qz2.below (b := w.heap.size) HB7.out.size (Nat.le_refl _))⟩
      | true =>
        go_wp2_with fail
        refine (Cur.pick _ _ _ _ 20 HC7.out (by omega)).mono ?_
        rintro e w8 ⟨x, rfl, ⟨x0, x1⟩, q8⟩
        obtain ⟨k, rfl⟩ := Int.eq_ofNat_of_zero_le x0
        have hk : k ≤ 19 := by omega
        have hR8 := HR7.out.kept q8.2 (fun g hg e => by have h1 := (HR7.out.lt g hg).1; injection e with e; omega)
        have HR8 := Lib.hid hR8
        have HB8 := Lib.hid (HB7.out.trans (q8.below (b := w.heap.size) HB7.out.size (Nat.le_refl _)))
        have HC8 := Lib.hid q8.1
        clear hR8 q8 HR7 HB7 HC7 x0 x1
        have hj2 : L.length + 1 ≤ maxLen := by simp only [maxLen]; omega
        go_wp2_with (first | (at_make; refine K.make1 rfl (.tmp 29) (.tmp 29) _ rfl w8.heap.size _ i1 _ 1 1 Try.underlying39 hi1 hy0 hy1 hy2 (3990 + k) (by first | rfl | (simp [go_sem]; done) | (simp [go_sem]; omega)) (by first | rfl | (simp [go_sem]; done) | (simp [go_sem]; omega)) (by omega) (by simp only [maxLen]; omega) (Nat.le_refl _) ?_; intro w9 hrow9 hb9 hs9; rw [zeros] at hrow9; obtain ⟨S, hS, hcv⟩ := convB (P := Try.prog) Try.underlying39 Try.underlying5 Try.underlying9 w9 w8.heap.size 0 (3990 + k) (3990 + k) (List.replicate (3990 + k) 0) (by simp) hrow9.rd (by omega); have HR9 := Lib.hid (HR8.out.below hb9); have hlX := HR8.out.lt; have HLX := Lib.hid hlX; have HC9 := Lib.hid (HC8.out.below hb9); have hB9 := HB8.out.trans (hb9.mono HB8.out.size); have HB9 := Lib.hid hB9; have hz9 : w.heap.size + 1 ≤ w9.heap.size := (by have := HC9.out.lt; omega); clear hrow9 hb9 hlX hB9) | (at_builtin; refine K.append1 rfl (.tmp 26) (.tmp 32) _ rfl (w.heap.size + 1) _ i0 _ 1 16 Try.underlying30 hi0 hz0 hz1 hz2 rfl (by omega) X L.length n _ rfl HR9.out #[.string S] rfl (by simp [Value.oneCell']) (by simp [go_sem]) hj2 (by omega) hz9 ?_; intro g' c' w10 hrow10 hb10 _ _ hg10; have HC10 := Lib.hid (HC9.out.kept hg10 (fun q hq => by have := (HLX.out q hq).1; omega) (fun e => by have := (HLX.out _ e).1; omega)); have HB10 := Lib.hid (HB9.out.trans (hb10.mono (by omega))); have HR10 := Lib.hid (show K.Row w10 (w.heap.size + 1) 9 1 (some ⟨g', 0, none⟩) (L ++ [S]).length c' ((L ++ [S]).map Value.string) by simpa using hrow10); clear hg10 hrow10 hb10))
        refine (Cur.of _ _ _ _ (some ⟨w10.heap.size, 0, none⟩) 5 sepJ (HC10.out.alloc _) (by omega) (by decide) (K.Rd.new w10 _ _ 5 1 rfl) (fun e => by have := HC10.out.lt; simp [K.blk] at e; omega)).mono ?_
        rintro e w11 ⟨p, rfl, hp, qz⟩
        have qz2 := K.Went.alloc _ qz
        go_wp2_with fail
        go_ret2
        exact ⟨(some ⟨g', 0, none⟩), c', (L ++ [S]), p, by first | rfl | simp, (HR10.out.kept qz2.2 (fun g hg e => by have h1 := (HR10.out.lt g hg).1; injection e with e; omega)).more (by omega), by first | omega | (simp; omega), (fun x hx => by rcases List.mem_append.1 hx with h | h; have := HX.out x h; omega; rw [List.mem_singleton.1 h]; omega), sepJ_size p hp, HB10.out.trans (qz2.below (b := w.heap.size) HB10.out.size (Nat.le_refl _))⟩
end Go.Proofs.Ytpeoikhddmoafaa.Draw1
