/-
  Walks: the draws of lists of pupils, and the helpers of the great laws on pupils.
-/
import Derived.Test.YtebbihckndjbeaaPupilD
import Derived.Test.YtebbihckndjbeaaPupilN
import Derived.Deep.DeepMust
set_option linter.unusedVariables false
namespace Go.Proofs.Ytebbihckndjbeaa.PupilD
open Go.RowKit
theorem row_made5 (w : World) (lo : Nat) (h : lo ≤ w.heap.size) : K.Row (w.alloc (.cells #[] 26)) lo 26 5 (some ⟨w.heap.size, 0, none⟩) 0 0 [] := by
  have h0 : K.Row (w.alloc (.cells #[] 26)) w.heap.size 26 5 (some ⟨w.heap.size, 0, none⟩) 0 0 [] := World.ownsRow_made w #[] 0 (Nat.le_refl _) (Nat.zero_le _) rfl
  exact h0.more h
/-- a list of pupils of one's own beside a cursor. -/
structure Pd (w wr : World) (lo g Bq : Nat) (A : Option Addr) (c : Nat) (l : List M.Pupil) : Prop where
  row : K.Row wr w.heap.size 26 5 A l.length c (l.flatMap M.pupilCells)
  cg : Cg w wr lo g Bq
  nm : ∀ p ∈ l, p.name.size ≤ 20
section
variable {w wr w2 : World} {lo g Bq : Nat} {A : Option Addr} {c : Nat} {l : List M.Pupil}
theorem Pd.alloc (F : Pd w wr lo g Bq A c l) (o : Obj) : Pd w (wr.alloc o) lo g Bq A c l := ⟨F.row.alloc o, F.cg.alloc o, F.nm⟩
theorem Pd.went {n : Nat} (F : Pd w wr lo g Bq A c l) (h : K.Went wr lo g Bq n w2) : Pd w w2 lo g (Bq + n) A c l :=
  ⟨F.row.kept h.2 (fun q hq e => by injection e with e; have := (F.row.lt q hq).1; have := F.cg.glt; omega), F.cg.went h, F.nm⟩
theorem Pd.more {Bq' : Nat} (F : Pd w wr lo g Bq A c l) (h : Bq ≤ Bq') : Pd w wr lo g Bq' A c l := ⟨F.row, ⟨F.cg.cur.mono h, F.cg.gro, F.cg.glt⟩, F.nm⟩
theorem Pd.below (F : Pd w wr lo g Bq A c l) (h : Below wr.heap.size wr w2) : Pd w w2 lo g Bq A c l :=
  ⟨F.row.below h, ⟨F.cg.cur.below h, K.grown_trans F.cg.gro (K.grown_below h _), F.cg.glt⟩, F.nm⟩
theorem Pd.size (F : Pd w wr lo g Bq A c l) : w.heap.size ≤ wr.heap.size := F.cg.gro.size
/-- another row is grown. -/
theorem Pd.other (F : Pd w wr lo g Bq A c l) {B : Option Addr} (hg : wr.grownBy w2 (K.blk B)) (hB : ∀ q, K.blk B = some q → w.heap.size ≤ q) (hap : ∀ q, K.blk A = some q → K.blk B ≠ some q) : Pd w w2 lo g Bq A c l :=
  ⟨F.row.kept hg hap, F.cg.grownN hg hB, F.nm⟩
end
set_option maxRecDepth 100000 in
set_option maxHeartbeats 4000000 in
theorem pupils (w : World) (lo g B : Nat) (h : K.Cur w lo g B) (hB : B ≤ 100000) :
    Calls Try.prog 73 #[.pointer (some ⟨g, 0, none⟩)] w fun e w' => ∃ (A : Option Addr) (c : Nat) (l : List M.Pupil), e = .returned (.slice A l.length c) ∧ l.length ≤ 13 ∧ (∀ p ∈ l, p.name.size ≤ 20) ∧ K.Row w' w.heap.size 26 5 A l.length c (l.flatMap M.pupilCells) ∧ K.Went w lo g B 1000 w' := by
  obtain ⟨i0, hi0, hz0, hz1, hz2⟩ := info_parts PupilW.infoPup
  have HP := Lib.hid (⟨row_made5 w _ (Nat.le_refl _), (Cg.start h).alloc _, fun p hp => by cases hp⟩ : Pd w (w.alloc (.cells #[] 26)) lo g B (some ⟨w.heap.size, 0, none⟩) 0 [])
  have hgl := h.lt
  clear h
  go_enter Try.func73, Try.ntmps73
  go_wp2_with fail
  refine (Cur.pick _ lo g _ 11 HP.out.cg.cur (by omega)).mono ?_
  rintro e w1 ⟨x, rfl, ⟨x0, x1⟩, q1⟩
  obtain ⟨m0, rfl⟩ := Int.eq_ofNat_of_zero_le x0
  have hm0 : m0 ≤ 10 := by omega
  have HP := Lib.hid (HP.out.went q1)
  clear q1 x0 x1
  go_wp2_with fail
  go_loopw [3, 4, 5] (fun o i n wr => ∃ (m : Nat) (A : Option Addr) (c : Nat) (l : List M.Pupil) (idv : Int), m ≤ 10 ∧ n = .int .i64 (m : Int) ∧ i = .int .i64 idv ∧ o = .slice A l.length c ∧ l.length + m ≤ 10 ∧ Hid (Pd w wr lo g (B + 2 + 40 * (10 - m)) A c l)) (fun _ _ n _ => (intOf n).toNat)
  case atStart => exact ⟨m0, _, 0, [], 0, hm0, rfl, rfl, rfl, by simpa using hm0, Lib.hid (HP.out.more (by omega))⟩
  case round =>
    clear HP hm0
    obtain ⟨m, A, c, l, idv, hm10, rfl, rfl, rfl, hlm, HP⟩ := hrel
    cases m with
    | succ m =>
      have hp0 : (0 : Int) < ((m + 1 : Nat) : Int) := by omega
      go_wp2_with fail
      refine (Cur.pick _ lo g _ 3 HP.out.cg.cur (by omega)).mono ?_
      rintro e w2 ⟨x, rfl, _, q2⟩
      have HP := Lib.hid (HP.out.went q2)
      clear q2
      have HP1 := Lib.hid (HP.out.alloc (.cells #[] 26))
      have e0 := Lib.hid (row_made5 w2 w.heap.size HP.out.size)
      have hsz := HP1.out.size
      have hlt2 := Lib.hid HP.out.row.lt
      go_wp2_with (at_builtin; go_must (refine K.appendN rfl (.tmp 20) (.tmp 21) _ rfl w.heap.size _ i0 _ 5 48 Try.underlying31 hi0 hz0 hz1 hz2 rfl (by omega) (some ⟨w2.heap.size, 0, none⟩) 0 0 [] (by simp [go_sem]) e0.out A l.length c _ rfl HP1.out.row.rd (PupilW.cells_one l) (by simp only [maxLen]; omega) (by omega) hsz ?_; intro A' c' wa hrow hba hga hata; rw [Nat.zero_add, List.nil_append] at hrow; rw [Nat.zero_add]; skip))
      have HPa := Lib.hid (HP1.out.other hga (fun q hq => by simp [K.blk] at hq; have := HP.out.size; omega) (fun q hq e => by simp [K.blk] at e; have := (hlt2.out q hq).2; omega))
      have hAP := Lib.hid (show ∀ q, K.blk A = some q → K.blk A' ≠ some q from fun q hq e => by have h1 := (hlt2.out q hq).2; rcases hata with h | h <;> rw [h] at e <;> simp [K.blk] at e <;> omega)
      have HR := Lib.hid hrow
      have hAlt := Lib.hid hrow.lt
      clear hrow hba hga hata e0 hsz HP1
      refine (pupil1 _ lo g _ _ HPa.out.cg.cur (by omega)).mono ?_
      rintro e w4 ⟨p, rfl, hpn, q4⟩
      have HP4 := Lib.hid (HPa.out.went q4)
      have HR4 := Lib.hid (HR.out.kept q4.2 (fun q hq e => by injection e with e; have := (hAlt.out q hq).1; omega))
      clear q4 HPa HR
      have hsz4 := HP4.out.size
      have hjm : l.length + 1 ≤ maxLen := by simp only [maxLen]; omega
      go_wp2_with (at_builtin; go_must (refine K.append1 rfl (.tmp 22) (.tmp 26) _ rfl w.heap.size _ i0 _ 5 48 Try.underlying31 hi0 hz0 hz1 hz2 rfl (by omega) A' l.length c' _ rfl HR4.out #[.int .i64 p.id, .string p.name, .int .i64 p.born, .int .i64 p.cls, .int .i64 p.level] rfl (by simp [Value.oneCell']) (by simp [go_sem]) hjm (by omega) hsz4 ?_; intro g5 c5 w5 hrow5 hb5 hlo5 hat5 hg5))
      have HP5 := Lib.hid (HP4.out.other hg5 (fun q hq => (hAlt.out q hq).1) hAP.out)
      have HN5 := Lib.hid (⟨by rw [List.flatMap_append, List.length_append]; simpa [M.pupilCells] using hrow5, HP5.out.cg, fun z hz => by rcases List.mem_append.1 hz with h | h; exact HP5.out.nm z h; rw [List.mem_singleton.1 h]; exact hpn⟩ : Pd w w5 lo g _ (some ⟨g5, 0, none⟩) c5 (l ++ [p]))
      have HLN : Hid ((l ++ [p]).length = l.length + 1) := Lib.hid (by simp)
      clear hrow5 hb5 hg5 hat5 HP4 HR4 hAP hAlt hlt2
      have HG := Lib.hid (fun w h => PupilG.s_good (some ⟨g5, 0, none⟩) c5 (l ++ [p]) w (by rw [HLN.out]; omega) (fun z hz => by have := HN5.out.nm z hz; omega) h)
      rw [HLN.out] at HG
      have hrd := HN5.out.row.rd
      rw [HLN.out] at hrd
      have HRD := Lib.hid hrd
      clear hrd
      refine (HG.out _ HRD.out).mono ?_
      rintro e w6 ⟨rfl, b6⟩
      have HP6 := Lib.hid (HP5.out.below b6)
      have HN6 := Lib.hid (HN5.out.below b6)
      clear b6 HG HRD HP5 HN5
      cases hok : M.pupsOk (l ++ [p]) with
      | true =>
        clear hok
        go_wp2_with fail
        go_roundw
        case rel => exact ⟨m, some ⟨g5, 0, none⟩, c5, l ++ [p], _, by omega, by go_num, rfl, by first | rfl | rw [HLN.out], by first | omega | (rw [HLN.out]; omega), Lib.hid (HN6.out.more (by omega))⟩
        case measure => first | (simp [intOf]; done) | (simp [intOf]; omega)
      | false =>
        clear hok
        go_wp2_with fail
        refine (Cur.one _ lo g _ 60 HP6.out.cg.cur (by omega)).mono ?_
        rintro e w7 ⟨b, rfl, q7⟩
        have HP7 := Lib.hid (HP6.out.went q7)
        have HN7 := Lib.hid (HN6.out.went q7)
        clear q7 HP6 HN6
        cases b with
        | true =>
          go_wp2_with fail
          go_roundw
          case rel => exact ⟨m, some ⟨g5, 0, none⟩, c5, l ++ [p], _, by omega, by go_num, rfl, by first | rfl | rw [HLN.out], by first | omega | (rw [HLN.out]; omega), Lib.hid (HN7.out.more (by omega))⟩
          case measure => first | (simp [intOf]; done) | (simp [intOf]; omega)
        | false =>
          go_wp2_with fail
          go_roundw
          case rel => exact ⟨m, A, c, l, _, by omega, by go_num, rfl, by first | rfl | rw [HLN.out], by first | omega | (rw [HLN.out]; omega), Lib.hid (HP7.out.more (by omega))⟩
          case measure => first | (simp [intOf]; done) | (simp [intOf]; omega)
    | zero =>
      have hl13 : l.length ≤ 13 := by omega
      go_wp2_with fail
      refine (Cur.one _ lo g _ 24 HP.out.cg.cur (by omega)).mono ?_
      rintro e w2 ⟨b, rfl, q2⟩
      have HP := Lib.hid (HP.out.went q2)
      clear q2
      cases b with
      | false =>
        go_wp2_with fail
        go_ret
        exact ⟨A, c, l, rfl, hl13, HP.out.nm, HP.out.row, HP.out.cg.fin (by omega)⟩
      | true =>
        have HQ := Lib.hid (⟨row_made5 w2 _ HP.out.size, HP.out.cg.alloc _, fun p hp => by cases hp⟩ : Pd w (w2.alloc (.cells #[] 26)) lo g _ (some ⟨w2.heap.size, 0, none⟩) 0 [])
        clear HP hl13 hlm
        go_wp2_with fail
        go_loopw [3, 7] (fun o n wr => ∃ (k : Nat) (A : Option Addr) (c : Nat) (l : List M.Pupil), k ≤ 13 ∧ n = .int .i64 (k : Int) ∧ o = .slice A k c ∧ Hid (l.length = k) ∧ Hid (Pd w wr lo g (B + 500 + 2 * k) A c l)) (fun _ n _ => 20 - (intOf n).toNat)
        case atStart => exact ⟨0, _, 0, [], by omega, rfl, rfl, Lib.hid rfl, Lib.hid (HQ.out.more (by omega))⟩
        case round =>
          clear HQ
          obtain ⟨k, A, c, l, hk, rfl, rfl, HL, HP⟩ := hrel
          go_wp2_with fail
          refine (Cur.pick _ lo g _ 2 HP.out.cg.cur (by omega)).mono ?_
          rintro e w3 ⟨x, rfl, ⟨x0, x1⟩, q3⟩
          have HP := Lib.hid (HP.out.went q3)
          clear q3
          have hws : IntKind.i64.wrap (12 + x) = 12 + x := IntWalk.i64_in _ (by omega)
          have hrw := HP.out.row
          rw [HL.out] at hrw
          have HRW := Lib.hid hrw
          clear hrw
          by_cases hlt : (k : Int) < 12 + x
          · have hj : k + 1 ≤ maxLen := by simp only [maxLen]; omega
            have hsz := HP.out.size
            have hwk : IntKind.i64.wrap ((k : Int) + 1) = (k : Int) + 1 := IntWalk.i64_in _ (by omega)
            have hwq : IntKind.i64.wrap ((k : Int) / 6) = (k : Int) / 6 := IntWalk.i64_in _ (by omega)
            have hk0 : (0 : Int) ≤ (k : Int) := by omega
            go_wp2_with (at_builtin; go_must (refine K.append1 rfl (.tmp 45) (.tmp 51) _ rfl w.heap.size _ i0 _ 5 48 Try.underlying31 hi0 hz0 hz1 hz2 rfl (by omega) A k c _ rfl HRW.out #[.int .i64 ((k : Int) + 1), .string ⟨#[120]⟩, .int .i64 2000, .int .i64 ((k : Int) / 6), .int .i64 3] rfl (by simp [Value.oneCell']) (by simp [go_sem]) hj (by omega) hsz ?_; intro g5 c5 w5 hrow5 hb5 hlo5 hat5 hg5))
            go_roundw
            case rel => exact ⟨k + 1, some ⟨g5, 0, none⟩, c5, l ++ [(⟨(k : Int) + 1, ⟨#[120]⟩, 2000, (k : Int) / 6, 3⟩ : M.Pupil)], by omega, by go_num, rfl, Lib.hid (by rw [List.length_append, HL.out]; rfl), Lib.hid ((⟨by rw [List.flatMap_append, List.length_append, HL.out]; simpa [M.pupilCells] using hrow5, HP.out.cg.grownN hg5 (fun q hq => (HP.out.row.lt q hq).1), fun z hz => by rcases List.mem_append.1 hz with h | h; exact HP.out.nm z h; rw [List.mem_singleton.1 h]; exact (by decide : (⟨#[120]⟩ : ByteArray).size ≤ 20)⟩ : Pd w w5 lo g _ (some ⟨g5, 0, none⟩) c5 (l ++ [(⟨(k : Int) + 1, ⟨#[120]⟩, 2000, (k : Int) / 6, 3⟩ : M.Pupil)])).more (by omega))⟩
            case measure => first | (simp [intOf]; done) | (simp [intOf]; omega)
          · go_wp2_with fail
            go_ret
            exact ⟨A, c, l, by rw [HL.out]; rfl, by rw [HL.out]; exact hk, HP.out.nm, HP.out.row, HP.out.cg.fin (by omega)⟩
def li_id : List Int := [0, 1, 500]
set_option maxHeartbeats 1000000 in
theorem pupilId (w : World) (lo g B : Nat) (A : Option Addr) (c : Nat) (l : List M.Pupil) (h : K.Cur w lo g B) (hB : B ≤ 1000000) (hl : l.length ≤ 13) (ha : K.Rd w 5 A l.length (l.flatMap M.pupilCells)) (hne : K.blk A ≠ some g) :
    Calls Try.prog 74 #[.pointer (some ⟨g, 0, none⟩), .slice A l.length c] w fun e w' => ∃ x : Int, e = .returned (.int .i64 x) ∧ K.Went w lo g B 6 w' := by
  have hlt := h.lt
  have key : ∀ (wq : World) (n : Nat), K.Cur wq lo g (B + n) → n ≤ 2 → Calls Try.prog 78 #[.pointer (some ⟨g, 0, none⟩), .slice (some ⟨wq.heap.size, 0, none⟩) 3 3] (wq.alloc (.cells #[.int .i64 0, .int .i64 1, .int .i64 500] 3)) fun e w' => ∃ x, e = .returned (.int .i64 x) ∧ x ∈ li_id ∧ K.Went (wq.alloc (.cells #[.int .i64 0, .int .i64 1, .int .i64 500] 3)) lo g (B + n) 2 w' := fun wq n hq hn =>
    Cur.among _ lo g _ (some ⟨wq.heap.size, 0, none⟩) 3 li_id (hq.alloc _) (by omega) (by decide) (K.Rd.new wq _ _ 3 1 rfl) (fun e => by simp [K.blk] at e; have := hq.lt; omega)
  have KEY := Lib.hid key
  clear key
  by_cases h0 : l.length = 0
  · have t0 : ((l.length : Int) == 0) = true := by rw [beq_iff_eq]; omega
    go_enter Try.func74, Try.ntmps74
    go_wp2_with fail
    refine (KEY.out w 0 h (by omega)).mono ?_
    rintro e w1 ⟨x, rfl, _, q1⟩
    go_wp2_with fail
    go_ret
    exact ⟨x, rfl, (K.Went.alloc _ q1).mono (by omega)⟩
  · have t0 : ((l.length : Int) == 0) = false := by rw [beq_eq_false_iff_ne]; omega
    go_enter Try.func74, Try.ntmps74
    go_wp2_with fail
    refine (Cur.one _ lo g _ 10 h (by omega)).mono ?_
    rintro e w1 ⟨b, rfl, q1⟩
    cases b with
    | true =>
      go_wp2_with fail
      refine (KEY.out w1 2 q1.1 (by omega)).mono ?_
      rintro e w2 ⟨x, rfl, _, q2⟩
      go_wp2_with fail
      go_ret
      exact ⟨x, rfl, (q1.trans (K.Went.alloc _ q2)).mono (by omega)⟩
    | false =>
      go_wp2_with fail
      refine (Cur.pick _ lo g _ l.length q1.1 (by omega)).mono ?_
      rintro e w2 ⟨x, rfl, ⟨x0, x1⟩, q2⟩
      obtain ⟨k, rfl⟩ := Int.eq_ofNat_of_zero_le x0
      have hk : k < l.length := by omega
      have hk1 : (k : Int) < (l.length : Int) := by omega
      have ha2 := (ha.kept q1.2 (fun q hq e => hne (by rw [hq, e]))).kept q2.2 (fun q hq e => hne (by rw [hq, e]))
      obtain ⟨gq, oq, rfl, hgq, c0, _⟩ := ha2.pupil hk
      generalize l[k].id = v at *
      go_wp2_with fail
      go_ret
      exact ⟨v, rfl, (q1.trans q2).mono (by omega)⟩
theorem rd_cut {w : World} {A : Option Addr} {n k : Nat} {xs : List Value} (h : K.Rd w 1 A n xs) (hk : k ≤ n) : K.Rd w 1 A k (xs.take k) :=
  ⟨by have := h.1; rw [List.length_take]; omega, fun h0 => by
    obtain ⟨g, off, e, hg, hc⟩ := h.2 (by omega)
    refine ⟨g, off, e, hg, fun j u hu => hc j u ?_⟩
    rw [List.getElem?_take] at hu
    split at hu
    · exact hu
    · cases hu⟩
def li_c3 : List Int := [0, 1, 1, 2, 3, 9, -1, 10]
set_option maxHeartbeats 1000000 in
theorem class3 (w : World) (lo g B : Nat) (h : K.Cur w lo g B) (hB : B ≤ 1000000) :
    Calls Try.prog 75 #[.pointer (some ⟨g, 0, none⟩)] w fun e w' => ∃ x : Int, e = .returned (.int .i64 x) ∧ (-1 ≤ x ∧ x ≤ 10) ∧ K.Went w lo g B 6 w' := by
  have hbd : ∀ x ∈ li_c3, -1 ≤ x ∧ x ≤ 10 := by decide
  have hlt := h.lt
  have rl := Lib.hid (K.Rd.new w #[.int .i64 0, .int .i64 1, .int .i64 1, .int .i64 2, .int .i64 3, .int .i64 9, .int .i64 (-1), .int .i64 10] 3 8 1 rfl)
  go_enter Try.func75, Try.ntmps75
  go_wp2_with fail
  refine (Cur.pick _ lo g _ 24 (h.alloc _) (by omega)).mono ?_
  rintro e w1 ⟨x, rfl, ⟨x0, x1⟩, q1⟩
  have rl1 := Lib.hid (rl.out.kept q1.2 (fun q hq e => by simp [K.blk] at hq; injection e with e; omega))
  have hq : x / 11 = 0 ∨ x / 11 = 1 ∨ x / 11 = 2 := by omega
  clear rl
  rcases hq with hq | hq | hq

  · go_wp2_with fail
    refine (Cur.among _ lo g _ (some ⟨w.heap.size, 0, none⟩) 8 (li_c3.take 6) q1.1 (by omega) (by decide) (rd_cut (k := 6) rl1.out (by omega)) (fun e => by simp [K.blk] at e; omega)).mono ?_
    rintro e w2 ⟨v, rfl, hv, q2⟩
    go_wp2_with fail
    go_ret
    exact ⟨v, rfl, hbd v (List.mem_of_mem_take hv), (K.Went.alloc _ (q1.trans q2)).mono (by omega)⟩
  · go_wp2_with fail
    refine (Cur.among _ lo g _ (some ⟨w.heap.size, 0, none⟩) 8 (li_c3.take 7) q1.1 (by omega) (by decide) (rd_cut (k := 7) rl1.out (by omega)) (fun e => by simp [K.blk] at e; omega)).mono ?_
    rintro e w2 ⟨v, rfl, hv, q2⟩
    go_wp2_with fail
    go_ret
    exact ⟨v, rfl, hbd v (List.mem_of_mem_take hv), (K.Went.alloc _ (q1.trans q2)).mono (by omega)⟩
  · go_wp2_with fail
    refine (Cur.among _ lo g _ (some ⟨w.heap.size, 0, none⟩) 8 (li_c3.take 8) q1.1 (by omega) (by decide) (rd_cut (k := 8) rl1.out (by omega)) (fun e => by simp [K.blk] at e; omega)).mono ?_
    rintro e w2 ⟨v, rfl, hv, q2⟩
    go_wp2_with fail
    go_ret
    exact ⟨v, rfl, hbd v (List.mem_of_mem_take hv), (K.Went.alloc _ (q1.trans q2)).mono (by omega)⟩
def RetP (w : World) (e : Ending) (w' : World) : Prop := ∃ (X : Option Addr) (n : Nat) (p : List M.Pupil), e = .returned (.slice X p.length n) ∧ p.length ≤ 13 ∧ (∀ x ∈ p, x.name.size ≤ 20) ∧ K.Rd w' 5 X p.length (p.flatMap M.pupilCells) ∧ Below w.heap.size w w'
def RetPI (w : World) (e : Ending) (w' : World) : Prop := ∃ (X : Option Addr) (n : Nat) (p : List M.Pupil) (x : Int), e = .returned (.tuple #[.slice X p.length n, .int .i64 x]) ∧ p.length ≤ 13 ∧ (∀ x ∈ p, x.name.size ≤ 20) ∧ K.Rd w' 5 X p.length (p.flatMap M.pupilCells) ∧ Below w.heap.size w w'
def RetPII (w : World) (e : Ending) (w' : World) : Prop := ∃ (X : Option Addr) (n : Nat) (p : List M.Pupil) (x y : Int), e = .returned (.tuple #[.slice X p.length n, .int .i64 x, .int .i64 y]) ∧ p.length ≤ 13 ∧ (∀ x ∈ p, x.name.size ≤ 20) ∧ K.Rd w' 5 X p.length (p.flatMap M.pupilCells) ∧ Below w.heap.size w w'
set_option maxHeartbeats 1000000 in
theorem arepupils (A : Option Addr) (c : Nat) (l : List UInt8) (w : World) (hl : l.length ≤ 65536) (ha : K.Rd w 1 A l.length (l.map fun b => Value.int .u8 (b.toNat : Int))) :
    Calls Try.prog 79 #[.slice A l.length c] w (RetP w) := by
  have HC := Lib.hid (K.Cur.new (c := c) ha hl 74)
  have B0 := Lib.hid (show Below w.heap.size w (w.alloc (.cells #[.slice A l.length c, .int .i64 0, .int .u64 0] 74)) from (Below.refl _ _).alloc (Nat.le_refl _) _)
  have HZ : w.heap.size + 1 ≤ (w.alloc (.cells #[.slice A l.length c, .int .i64 0, .int .u64 0] 74)).heap.size := by simp
  clear ha
  go_enter Try.func79, Try.ntmps79
  go_wp2_with fail
  refine (pupils _ _ _ _ HC.out (by omega)).mono ?_
  rintro e w1 ⟨X, n, p, rfl, hp13, hnm, row, q1⟩
  have hz1 : w.heap.size + 1 ≤ w1.heap.size := by have := q1.2.size; omega
  have B1 := Lib.hid (B0.out.trans (q1.below (b := w.heap.size) (by omega) (Nat.le_refl _)))
  have FA := Lib.hid (fun q hq => show w.heap.size + 1 ≤ q by have := (row.lt q hq).1; omega)
  have R1 := Lib.hid row.rd
  have C1 := Lib.hid q1.1
  clear row q1 B0 HC
  go_wp2_with fail
  go_ret
  exact ⟨X, n, p, rfl, hp13, hnm, R1.out, B1.out⟩
set_option maxHeartbeats 1000000 in
theorem placeall (A : Option Addr) (c : Nat) (l : List UInt8) (w : World) (hl : l.length ≤ 65536) (ha : K.Rd w 1 A l.length (l.map fun b => Value.int .u8 (b.toNat : Int))) :
    Calls Try.prog 37 #[.slice A l.length c] w (RetP w) := by
  go_enter Try.func37, Try.ntmps37
  go_wp2_with fail
  refine (arepupils A c l _ hl ha).mono ?_
  rintro e w1 ⟨X, n, p, rfl, h13, hnm, hr, hb⟩
  go_wp2_with fail
  go_ret
  exact ⟨X, n, p, rfl, h13, hnm, hr, hb⟩
set_option maxHeartbeats 1000000 in
theorem raiselevel (A : Option Addr) (c : Nat) (l : List UInt8) (w : World) (hl : l.length ≤ 65536) (ha : K.Rd w 1 A l.length (l.map fun b => Value.int .u8 (b.toNat : Int))) :
    Calls Try.prog 41 #[.slice A l.length c] w (RetPI w) := by
  have HC := Lib.hid (K.Cur.new (c := c) ha hl 74)
  have B0 := Lib.hid (show Below w.heap.size w (w.alloc (.cells #[.slice A l.length c, .int .i64 0, .int .u64 0] 74)) from (Below.refl _ _).alloc (Nat.le_refl _) _)
  have HZ : w.heap.size + 1 ≤ (w.alloc (.cells #[.slice A l.length c, .int .i64 0, .int .u64 0] 74)).heap.size := by simp
  clear ha
  go_enter Try.func41, Try.ntmps41
  go_wp2_with fail
  refine (pupils _ _ _ _ HC.out (by omega)).mono ?_
  rintro e w1 ⟨X, n, p, rfl, hp13, hnm, row, q1⟩
  have hz1 : w.heap.size + 1 ≤ w1.heap.size := by have := q1.2.size; omega
  have B1 := Lib.hid (B0.out.trans (q1.below (b := w.heap.size) (by omega) (Nat.le_refl _)))
  have FA := Lib.hid (fun q hq => show w.heap.size + 1 ≤ q by have := (row.lt q hq).1; omega)
  have R1 := Lib.hid row.rd
  have C1 := Lib.hid q1.1
  clear row q1 B0 HC
  go_wp2_with fail
  refine (pupilId _ _ _ _ X n p C1.out (by omega) hp13 R1.out (fun e => by have := FA.out _ e; omega)).mono ?_
  rintro e w2 ⟨x2, rfl, q2⟩
  have hz2 : w.heap.size + 1 ≤ w2.heap.size := by have := q2.2.size; omega
  have B2 := Lib.hid (B1.out.trans (q2.below (b := w.heap.size) (by omega) (Nat.le_refl _)))
  have R2 := Lib.hid (R1.out.kept q2.2 (fun q hq e => by injection e with e; have := FA.out q hq; omega))
  have C2 := Lib.hid q2.1
  clear q2 B1 R1 C1
  go_wp2_with fail
  go_ret2
  exact ⟨X, n, p, x2, rfl, hp13, hnm, R2.out, B2.out⟩
set_option maxHeartbeats 1000000 in
theorem classesfor (A : Option Addr) (c : Nat) (l : List UInt8) (w : World) (hl : l.length ≤ 65536) (ha : K.Rd w 1 A l.length (l.map fun b => Value.int .u8 (b.toNat : Int))) :
    Calls Try.prog 21 #[.slice A l.length c] w (RetPI w) := by
  go_enter Try.func21, Try.ntmps21
  go_wp2_with fail
  refine (raiselevel A c l _ hl ha).mono ?_
  rintro e w1 ⟨X, n, p, x, rfl, h13, hnm, hr, hb⟩
  go_wp2_with fail
  go_ret2
  exact ⟨X, n, p, x, rfl, h13, hnm, hr, hb⟩
set_option maxHeartbeats 1000000 in
theorem inclass (A : Option Addr) (c : Nat) (l : List UInt8) (w : World) (hl : l.length ≤ 65536) (ha : K.Rd w 1 A l.length (l.map fun b => Value.int .u8 (b.toNat : Int))) :
    Calls Try.prog 34 #[.slice A l.length c] w (RetPI w) := by
  have HC := Lib.hid (K.Cur.new (c := c) ha hl 74)
  have B0 := Lib.hid (show Below w.heap.size w (w.alloc (.cells #[.slice A l.length c, .int .i64 0, .int .u64 0] 74)) from (Below.refl _ _).alloc (Nat.le_refl _) _)
  have HZ : w.heap.size + 1 ≤ (w.alloc (.cells #[.slice A l.length c, .int .i64 0, .int .u64 0] 74)).heap.size := by simp
  clear ha
  go_enter Try.func34, Try.ntmps34
  go_wp2_with fail
  refine (pupils _ _ _ _ HC.out (by omega)).mono ?_
  rintro e w1 ⟨X, n, p, rfl, hp13, hnm, row, q1⟩
  have hz1 : w.heap.size + 1 ≤ w1.heap.size := by have := q1.2.size; omega
  have B1 := Lib.hid (B0.out.trans (q1.below (b := w.heap.size) (by omega) (Nat.le_refl _)))
  have FA := Lib.hid (fun q hq => show w.heap.size + 1 ≤ q by have := (row.lt q hq).1; omega)
  have R1 := Lib.hid row.rd
  have C1 := Lib.hid q1.1
  clear row q1 B0 HC
  go_wp2_with fail
  refine (class3 _ _ _ _ C1.out (by omega)).mono ?_
  rintro e w2 ⟨x2, rfl, _, q2⟩
  have hz2 : w.heap.size + 1 ≤ w2.heap.size := by have := q2.2.size; omega
  have B2 := Lib.hid (B1.out.trans (q2.below (b := w.heap.size) (by omega) (Nat.le_refl _)))
  have R2 := Lib.hid (R1.out.kept q2.2 (fun q hq e => by injection e with e; have := FA.out q hq; omega))
  have C2 := Lib.hid q2.1
  clear q2 B1 R1 C1
  go_wp2_with fail
  go_ret2
  exact ⟨X, n, p, x2, rfl, hp13, hnm, R2.out, B2.out⟩
set_option maxHeartbeats 1000000 in
theorem meanlevel (A : Option Addr) (c : Nat) (l : List UInt8) (w : World) (hl : l.length ≤ 65536) (ha : K.Rd w 1 A l.length (l.map fun b => Value.int .u8 (b.toNat : Int))) :
    Calls Try.prog 47 #[.slice A l.length c] w (RetPI w) := by
  go_enter Try.func47, Try.ntmps47
  go_wp2_with fail
  refine (inclass A c l _ hl ha).mono ?_
  rintro e w1 ⟨X, n, p, x, rfl, h13, hnm, hr, hb⟩
  go_wp2_with fail
  go_ret2
  exact ⟨X, n, p, x, rfl, h13, hnm, hr, hb⟩
set_option maxHeartbeats 1000000 in
theorem putin (A : Option Addr) (c : Nat) (l : List UInt8) (w : World) (hl : l.length ≤ 65536) (ha : K.Rd w 1 A l.length (l.map fun b => Value.int .u8 (b.toNat : Int))) :
    Calls Try.prog 32 #[.slice A l.length c] w (RetPII w) := by
  have HC := Lib.hid (K.Cur.new (c := c) ha hl 74)
  have B0 := Lib.hid (show Below w.heap.size w (w.alloc (.cells #[.slice A l.length c, .int .i64 0, .int .u64 0] 74)) from (Below.refl _ _).alloc (Nat.le_refl _) _)
  have HZ : w.heap.size + 1 ≤ (w.alloc (.cells #[.slice A l.length c, .int .i64 0, .int .u64 0] 74)).heap.size := by simp
  clear ha
  go_enter Try.func32, Try.ntmps32
  go_wp2_with fail
  refine (pupils _ _ _ _ HC.out (by omega)).mono ?_
  rintro e w1 ⟨X, n, p, rfl, hp13, hnm, row, q1⟩
  have hz1 : w.heap.size + 1 ≤ w1.heap.size := by have := q1.2.size; omega
  have B1 := Lib.hid (B0.out.trans (q1.below (b := w.heap.size) (by omega) (Nat.le_refl _)))
  have FA := Lib.hid (fun q hq => show w.heap.size + 1 ≤ q by have := (row.lt q hq).1; omega)
  have R1 := Lib.hid row.rd
  have C1 := Lib.hid q1.1
  clear row q1 B0 HC
  go_wp2_with fail
  refine (pupilId _ _ _ _ X n p C1.out (by omega) hp13 R1.out (fun e => by have := FA.out _ e; omega)).mono ?_
  rintro e w2 ⟨x2, rfl, q2⟩
  have hz2 : w.heap.size + 1 ≤ w2.heap.size := by have := q2.2.size; omega
  have B2 := Lib.hid (B1.out.trans (q2.below (b := w.heap.size) (by omega) (Nat.le_refl _)))
  have R2 := Lib.hid (R1.out.kept q2.2 (fun q hq e => by injection e with e; have := FA.out q hq; omega))
  have C2 := Lib.hid q2.1
  clear q2 B1 R1 C1
  go_wp2_with fail
  refine (class3 _ _ _ _ C2.out (by omega)).mono ?_
  rintro e w3 ⟨x3, rfl, _, q3⟩
  have hz3 : w.heap.size + 1 ≤ w3.heap.size := by have := q3.2.size; omega
  have B3 := Lib.hid (B2.out.trans (q3.below (b := w.heap.size) (by omega) (Nat.le_refl _)))
  have R3 := Lib.hid (R2.out.kept q3.2 (fun q hq e => by injection e with e; have := FA.out q hq; omega))
  have C3 := Lib.hid q3.1
  clear q3 B2 R2 C2
  go_wp2_with fail
  exact bodyPost_ret (v := .tuple #[.slice X p.length n, .int .i64 x2, .int .i64 x3]) (by simp [results, Try.results32, go_sem]) rfl ⟨X, n, p, x2, x3, rfl, hp13, hnm, R3.out, B3.out⟩
set_option maxHeartbeats 1000000 in
theorem swap (A : Option Addr) (c : Nat) (l : List UInt8) (w : World) (hl : l.length ≤ 65536) (ha : K.Rd w 1 A l.length (l.map fun b => Value.int .u8 (b.toNat : Int))) :
    Calls Try.prog 28 #[.slice A l.length c] w (RetPII w) := by
  have HC := Lib.hid (K.Cur.new (c := c) ha hl 74)
  have B0 := Lib.hid (show Below w.heap.size w (w.alloc (.cells #[.slice A l.length c, .int .i64 0, .int .u64 0] 74)) from (Below.refl _ _).alloc (Nat.le_refl _) _)
  have HZ : w.heap.size + 1 ≤ (w.alloc (.cells #[.slice A l.length c, .int .i64 0, .int .u64 0] 74)).heap.size := by simp
  clear ha
  go_enter Try.func28, Try.ntmps28
  go_wp2_with fail
  refine (pupils _ _ _ _ HC.out (by omega)).mono ?_
  rintro e w1 ⟨X, n, p, rfl, hp13, hnm, row, q1⟩
  have hz1 : w.heap.size + 1 ≤ w1.heap.size := by have := q1.2.size; omega
  have B1 := Lib.hid (B0.out.trans (q1.below (b := w.heap.size) (by omega) (Nat.le_refl _)))
  have FA := Lib.hid (fun q hq => show w.heap.size + 1 ≤ q by have := (row.lt q hq).1; omega)
  have R1 := Lib.hid row.rd
  have C1 := Lib.hid q1.1
  clear row q1 B0 HC
  go_wp2_with fail
  refine (pupilId _ _ _ _ X n p C1.out (by omega) hp13 R1.out (fun e => by have := FA.out _ e; omega)).mono ?_
  rintro e w2 ⟨x2, rfl, q2⟩
  have hz2 : w.heap.size + 1 ≤ w2.heap.size := by have := q2.2.size; omega
  have B2 := Lib.hid (B1.out.trans (q2.below (b := w.heap.size) (by omega) (Nat.le_refl _)))
  have R2 := Lib.hid (R1.out.kept q2.2 (fun q hq e => by injection e with e; have := FA.out q hq; omega))
  have C2 := Lib.hid q2.1
  clear q2 B1 R1 C1
  go_wp2_with fail
  refine (pupilId _ _ _ _ X n p C2.out (by omega) hp13 R2.out (fun e => by have := FA.out _ e; omega)).mono ?_
  rintro e w3 ⟨x3, rfl, q3⟩
  have hz3 : w.heap.size + 1 ≤ w3.heap.size := by have := q3.2.size; omega
  have B3 := Lib.hid (B2.out.trans (q3.below (b := w.heap.size) (by omega) (Nat.le_refl _)))
  have R3 := Lib.hid (R2.out.kept q3.2 (fun q hq e => by injection e with e; have := FA.out q hq; omega))
  have C3 := Lib.hid q3.1
  clear q3 B2 R2 C2
  go_wp2_with fail
  exact bodyPost_ret (v := .tuple #[.slice X p.length n, .int .i64 x2, .int .i64 x3]) (by simp [results, Try.results28, go_sem]) rfl ⟨X, n, p, x2, x3, rfl, hp13, hnm, R3.out, B3.out⟩
def li_3 : List Int := [1, 42, 999]
set_option maxHeartbeats 1000000 in
theorem ispupil (A : Option Addr) (c : Nat) (l : List UInt8) (w : World) (hl : l.length ≤ 65536) (ha : K.Rd w 1 A l.length (l.map fun b => Value.int .u8 (b.toNat : Int))) :
    Calls Try.prog 36 #[.slice A l.length c] w fun e w' => ∃ p : M.Pupil, e = .returned (.agg #[.int .i64 p.id, .string p.name, .int .i64 p.born, .int .i64 p.cls, .int .i64 p.level]) ∧ p.name.size ≤ 20 ∧ Below w.heap.size w w' := by
  have hc := K.Cur.new (c := c) (ha.alloc (.cells #[.int .i64 0, .string ByteArray.empty, .int .i64 0, .int .i64 0, .int .i64 0] 26)) hl 74
  rw [World.size_alloc] at hc
  have HC := Lib.hid (hc.alloc (.cells #[.int .i64 1, .int .i64 42, .int .i64 999] 3))
  have RS := Lib.hid (((K.Own.new w #[.int .i64 0, .string ByteArray.empty, .int .i64 0, .int .i64 0, .int .i64 0] 26).alloc (.cells #[.slice A l.length c, .int .i64 0, .int .u64 0] 74)).alloc (.cells #[.int .i64 1, .int .i64 42, .int .i64 999] 3))
  have B0 := Lib.hid (show Below w.heap.size w (((w.alloc (.cells #[.int .i64 0, .string ByteArray.empty, .int .i64 0, .int .i64 0, .int .i64 0] 26)).alloc (.cells #[.slice A l.length c, .int .i64 0, .int .u64 0] 74)).alloc (.cells #[.int .i64 1, .int .i64 42, .int .i64 999] 3)) from (((Below.refl _ _).alloc (Nat.le_refl _) _).alloc (by simp) _).alloc (by simp; omega) _)
  have RL := K.Rd.new ((w.alloc (.cells #[.int .i64 0, .string ByteArray.empty, .int .i64 0, .int .i64 0, .int .i64 0] 26)).alloc (.cells #[.slice A l.length c, .int .i64 0, .int .u64 0] 74)) #[.int .i64 1, .int .i64 42, .int .i64 999] 3 3 1 rfl
  rw [World.size_alloc, World.size_alloc] at RL
  have RL := Lib.hid RL
  have HZ := Lib.hid (show (((w.alloc (.cells #[.int .i64 0, .string ByteArray.empty, .int .i64 0, .int .i64 0, .int .i64 0] 26)).alloc (.cells #[.slice A l.length c, .int .i64 0, .int .u64 0] 74)).alloc (.cells #[.int .i64 1, .int .i64 42, .int .i64 999] 3)).heap.size = w.heap.size + 1 + 1 + 1 by simp)
  clear hc ha
  go_enter Try.func36, Try.ntmps36
  go_wp2_with fail
  refine (Cur.among _ _ _ _ (some ⟨w.heap.size + 1 + 1, 0, none⟩) 3 li_3 HC.out (by omega) (by decide) RL.out (fun e => by simp [K.blk] at e)).mono ?_
  rintro e w1 ⟨x, rfl, _, q1⟩
  have RS := Lib.hid (RS.out.kept q1.2 (fun e => by injection e with e; omega))
  have B1 := Lib.hid (B0.out.trans (q1.below (b := w.heap.size) (by have := HZ.out; omega) (by omega)))
  have hz1 : w.heap.size + 1 + 1 ≤ w1.heap.size := by have := q1.2.size; have := HZ.out; omega
  clear B0 HC RL HZ
  go_wp2_with fail
  refine (pupil1 _ _ _ _ _ q1.1 (by omega)).mono ?_
  rintro e w2 ⟨p, rfl, hpn, q2⟩
  have RS := Lib.hid (RS.out.kept q2.2 (fun e => by injection e with e; omega))
  have hbz := B1.out.trans (q2.below (b := w.heap.size) (by omega) (by omega))
  obtain ⟨r0, r1, r2, r3, r4, f0, f1, f2, f3, f4, rg⟩ := own5 RS.out
  clear q1 q2 B1
  go_wp2_with fail
  exact bodyPost_ret (v := .agg #[.int .i64 p.id, .string p.name, .int .i64 p.born, .int .i64 p.cls, .int .i64 p.level]) (by simp [results, Try.results36, go_sem, *]) rfl ⟨p, rfl, hpn, by (repeat (first | exact Below.refl _ _ | assumption | (refine K.below_drewN ?_ _) | (refine Below.drew ?_) | (refine Below.alloc ?_ (by first | (simp; done) | (simp; omega) | omega) _) | (refine Below.setCell ?_ (by first | (simp; done) | (simp; omega) | omega) _)))⟩
theorem rbig (A : Option Addr) (n c : Nat) (w : World) : Calls Try.prog 20 #[.slice A n c] w fun e w' => e = .returned (.bool (decide (65536 < n))) ∧ w = w' := by
  go_enter Try.func20, Try.ntmps20
  go_wp2
  go_ret
  exact ⟨K.ret_bool (by rw [decide_eq_decide]; omega), rfl⟩
set_option maxHeartbeats 400000 in
theorem rints (A B : Option Addr) (c d : Nat) (l : List Int) (w : World) (hl : l.length ≤ 1048576) (ha : K.Rd w 1 A l.length (l.map (Value.int .i64))) (hb : K.Rd w 1 B l.length (l.map (Value.int .i64))) :
    Calls Try.prog 24 #[.slice A l.length c, .slice B l.length d] w fun e w' => e = .returned (.bool true) ∧ Below w.heap.size w w' := by
  have hne : ((l.length : Int) != (l.length : Int)) = false := by simp
  go_enter Try.func24, Try.ntmps24
  go_wp2_with fail
  go_loopw [5] (fun i wr => ∃ k : Nat, k ≤ l.length ∧ i = .int .i64 k ∧ K.Qt w wr) (fun i _ => l.length - (intOf i).toNat)
  case atStart => exact ⟨0, Nat.zero_le _, rfl, K.Qt.refl _⟩
  case round =>
    obtain ⟨k, hk, rfl, hq⟩ := hrel
    by_cases hlt : k < l.length
    · obtain ⟨g, o, rfl, hc⟩ := (hq.rd ha).int hlt
      obtain ⟨g', o', rfl, hc'⟩ := (hq.rd hb).int hlt
      have h1 : (k : Int) < (l.length : Int) := by omega
      have h2 : (0 : Int) ≤ (k : Int) := by omega
      have h3 : (l[k] != l[k]) = false := by simp
      go_wp2_with fail
      go_quiet (fail)
      go_wp2
      go_roundw
      case rel => exact ⟨k + 1, by omega, by go_num, hq.then_ _⟩
      case measure => simp [intOf]; omega
    · go_wp2
      go_ret
      exact ⟨rfl, hq.below _⟩
set_option maxHeartbeats 1000000 in
theorem rpupils (A B : Option Addr) (c d : Nat) (l : List M.Pupil) (w : World) (hl : l.length ≤ 1048576) (ha : K.Rd w 5 A l.length (l.flatMap M.pupilCells)) (hb : K.Rd w 5 B l.length (l.flatMap M.pupilCells)) :
    Calls Try.prog 31 #[.slice A l.length c, .slice B l.length d] w fun e w' => e = .returned (.bool true) ∧ Below w.heap.size w w' := by
  have hne : ((l.length : Int) != (l.length : Int)) = false := by simp
  go_enter Try.func31, Try.ntmps31
  go_wp2_with fail
  go_loopw [5] (fun i wr => ∃ k : Nat, k ≤ l.length ∧ i = .int .i64 k ∧ K.Qt w wr) (fun i _ => l.length - (intOf i).toNat)
  case atStart => exact ⟨0, Nat.zero_le _, rfl, K.Qt.refl _⟩
  case round =>
    obtain ⟨k, hk, rfl, hq⟩ := hrel
    by_cases hlt : k < l.length
    · obtain ⟨g, o, rfl, _, a0, a1, a2, a3, a4⟩ := (hq.rd ha).pupil hlt
      obtain ⟨g', o', rfl, _, b0, b1, b2, b3, b4⟩ := (hq.rd hb).pupil hlt
      have h1 : (k : Int) < (l.length : Int) := by omega
      have h2 : (0 : Int) ≤ (k : Int) := by omega
      generalize l[k].id = v0 at *
      generalize l[k].name = v1 at *
      generalize l[k].born = v2 at *
      generalize l[k].cls = v3 at *
      generalize l[k].level = v4 at *
      go_wp2_with fail
      go_quiet (fail)
      go_wp2
      go_roundw
      case rel => exact ⟨k + 1, by omega, by go_num, hq.then_ _⟩
      case measure => simp [intOf]; omega
    · go_wp2
      go_ret
      exact ⟨rfl, hq.below _⟩
set_option maxHeartbeats 1000000 in
theorem rhas (A : Option Addr) (c : Nat) (l : List Int) (x : Int) (w : World) (hl : l.length ≤ 1048576) (ha : K.Rd w 1 A l.length (l.map (Value.int .i64))) :
    Calls Try.prog 26 #[.slice A l.length c, .int .i64 x] w fun e w' => e = .returned (.bool (decide (x ∈ l))) ∧ w = w' := by
  go_enter Try.func26, Try.ntmps26
  go_wp2_with fail
  go_loopw [5] (fun i wr => ∃ k : Nat, k ≤ l.length ∧ i = .int .i64 k ∧ Hid (x ∉ l.take k) ∧ w = wr) (fun i _ => l.length - (intOf i).toNat)
  case atStart => exact ⟨0, Nat.zero_le _, rfl, Lib.hid (by simp), rfl⟩
  case round =>
    obtain ⟨k, hk, rfl, HN, rfl⟩ := hrel
    by_cases hlt : k < l.length
    · obtain ⟨g, o, rfl, hc⟩ := ha.int hlt
      have h1 : (k : Int) < (l.length : Int) := by omega
      have h2 : (0 : Int) ≤ (k : Int) := by omega
      by_cases he : l[k] = x
      · have t : (l[k] == x) = true := by simp [he]
        have HM := Lib.hid (show decide (x ∈ l) = true from decide_eq_true (he ▸ List.getElem_mem hlt))
        clear he
        go_wp2
        go_ret
        exact ⟨K.ret_bool HM.out.symm, rfl⟩
      · have t : (l[k] == x) = false := by simp [he]
        have HS := Lib.hid (show x ∉ l.take (k + 1) by rw [List.take_succ_eq_append_getElem hlt]; intro h; rcases List.mem_append.1 h with h | h; exact HN.out h; exact he (List.mem_singleton.1 h).symm)
        clear he
        go_wp2
        go_roundw
        case rel => exact ⟨k + 1, by omega, by go_num, HS, by first | rfl | trivial⟩
        case measure => simp [intOf]; omega
    · obtain rfl : k = l.length := by omega
      have HM := Lib.hid (show decide (x ∈ l) = false from decide_eq_false (by have := HN.out; rwa [List.take_length] at this))
      go_wp2
      go_ret
      exact ⟨K.ret_bool HM.out.symm, rfl⟩
end Go.Proofs.Ytebbihckndjbeaa.PupilD
