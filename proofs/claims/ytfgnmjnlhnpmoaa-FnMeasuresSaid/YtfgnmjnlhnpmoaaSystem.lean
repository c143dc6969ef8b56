/-
  Walks: systems of units (printed by gen_sys.py).
-/
import Derived.Test.YtfgnmjnlhnpmoaaWord
import Derived.Test.YtfgnmjnlhnpmoaaKit2
set_option linter.unusedVariables false
namespace Go.Proofs.Ytfgnmjnlhnpmoaa.M
def uOk (i : Nat) (u : Unit) : Bool := word u.name && (if i = 0 then decide (u.size = 1) else inR u.size 2 100)
def newIn (l : List Unit) (i : Nat) (s : ByteArray) : Bool := (l.take i).all fun v => !decide (v.name = s)
def sysAt (l : List Unit) (i : Nat) : Bool := match l[i]? with | none => true | some u => uOk i u && newIn l i u.name
def sysUpTo (l : List Unit) (n : Nat) : Bool := (List.range n).all (sysAt l)
def sysOk (l : List Unit) : Bool := inR l.length 1 6 && sysUpTo l l.length
theorem sysUpTo_succ (l : List Unit) (n : Nat) : sysUpTo l (n + 1) = (sysUpTo l n && sysAt l n) := by simp [sysUpTo, List.range_succ]
theorem sysAt_eq (l : List Unit) (i : Nat) (h : i < l.length) : sysAt l i = (uOk i l[i] && newIn l i l[i].name) := by simp [sysAt, h]
theorem sysUpTo_false {l : List Unit} {n : Nat} (h : sysUpTo l n = false) {m : Nat} (hm : n ≤ m) : sysUpTo l m = false := by
  induction m with
  | zero => obtain rfl : n = 0 := by omega
            exact h
  | succ m ih =>
    by_cases e : n = m + 1
    · subst e; exact h
    · rw [sysUpTo_succ, ih (by omega)]; rfl
theorem newIn_succ (l : List Unit) (k : Nat) (h : k < l.length) (s : ByteArray) : newIn l (k + 1) s = (newIn l k s && !decide (l[k].name = s)) := by
  unfold newIn; rw [all_take_succ _ l k h]
theorem newIn_false {l : List Unit} {k : Nat} {s : ByteArray} (h : newIn l k s = false) {m : Nat} (hm : k ≤ m) : newIn l m s = false := by
  unfold newIn at h ⊢
  have e : (l.take m) = (l.take m).take k ++ (l.take m).drop k := (List.take_append_drop k _).symm
  rw [e, List.all_append, List.take_take, Nat.min_eq_left hm, h]; rfl
theorem sysOk_iff (l : List Unit) : sysOk l = true ↔ (1 ≤ l.length ∧ l.length ≤ 6) ∧ sysUpTo l l.length = true := by
  simp [sysOk, inR_iff]
  intro _; omega
theorem sys_at {l : List Unit} : ∀ n, sysUpTo l n = true → ∀ i (hi : i < l.length), i < n → uOk i l[i] = true
  | n + 1, h, i, hi, hn => by
      rw [sysUpTo_succ, Bool.and_eq_true] at h
      by_cases e : i = n
      · subst e; have := h.2; rw [sysAt_eq l i hi, Bool.and_eq_true] at this; exact this.1
      · exact sys_at n h.1 i hi (by omega)
theorem sysOk_size {l : List Unit} (h : sysOk l = true) (i : Nat) (hi : i < l.length) : 1 ≤ l[i].size ∧ l[i].size ≤ 100 := by
  have := sys_at _ ((sysOk_iff l).1 h).2 i hi hi
  simp only [uOk, Bool.and_eq_true] at this
  by_cases e : i = 0
  · rw [if_pos e] at this; have := of_decide_eq_true this.2; omega
  · rw [if_neg e, inR_iff] at this; omega
end Go.Proofs.Ytfgnmjnlhnpmoaa.M
namespace Go.Proofs.Ytfgnmjnlhnpmoaa.Sys
open Go.RowKit
set_option maxHeartbeats 4000000 in
theorem i_sys (A : Option Addr) (c : Nat) (l : List M.Unit) (w : World) (hl : l.length ≤ 1048576) (hs : ∀ u ∈ l, u.name.size ≤ 9223372036854775807) (hc : l.length ≤ c) (hc2 : c ≤ 9223372036854775807) (ha : K.Rd w 2 A l.length (l.flatMap M.unitCells)) :
    Calls Try.prog 20 #[.slice A l.length c] w fun e w' => e = .returned (.bool (M.sysOk l)) ∧ Below w.heap.size w w' := by
  have HF : Hid (M.sysOk l = (M.inR l.length 1 6 && M.sysUpTo l l.length)) := rfl
  generalize M.sysOk l = R at HF ⊢
  by_cases hn : 1 ≤ (l.length : Int) ∧ (l.length : Int) ≤ 6
  · obtain ⟨hn1, hn2⟩ := hn
    have HRF := Lib.hid (fun h : M.sysUpTo l l.length = false => show R = false by rw [HF.out, h]; simp)
    have HRT := Lib.hid (fun h : M.sysUpTo l l.length = true => show R = true by rw [HF.out, h, M.inR_yes hn1 hn2]; rfl)
    clear HF
    go_enter Try.func20, Try.ntmps20
    go_wp2_with (go_at_call 57; refine (Base.i_within_yes _ _ _ _ (by omega) (by omega)).mono ?_; rintro e w1 ⟨rfl, rfl⟩)
    go_loopw [13] (fun s wr => ∃ i : Nat, i ≤ l.length ∧ s = .int .i64 i ∧ Hid (M.sysUpTo l i = true) ∧ Below w.heap.size w wr) (fun s _ => l.length - (intOf s).toNat)
    case atStart => exact ⟨0, Nat.zero_le _, rfl, Lib.hid (by simp [M.sysUpTo]), Below.refl _ _⟩
    case round =>
      obtain ⟨i, hi, rfl, hall, hb⟩ := hrel
      by_cases hlt : i < l.length 
      · skip
        obtain ⟨g, o, rfl, hg, c0, c1⟩ := (ha.below hb).unit hlt
        have h1 : (i : Int) < (l.length : Int) := by omega
        have h1c : (i : Int) ≤ (c : Int) := by omega
        have h2 : (0 : Int) ≤ (i : Int) := by omega
        have HS := Lib.hid (M.sysUpTo_succ l i)
        have HA := Lib.hid (M.sysAt_eq l i hlt)
        have hname := hs l[i] (List.getElem_mem _)
        have HW := Lib.hid (fun w => Word.i_word l[i].name w hname)
        have HU : Hid (M.uOk i l[i] = (M.word l[i].name && (if i = 0 then decide (l[i].size = 1) else M.inR l[i].size 2 100))) := rfl
        have HR2 := Lib.hid ((ha.below hb).alloc (.cells #[.string l[i].name, .int .i64 l[i].size] 74))
        have HX := Lib.hid (K.Box.new wr #[.string l[i].name, .int .i64 l[i].size] 74)
        generalize hun : M.uOk i l[i] = un at HA HU
        clear hun
        generalize l[i].name = nm at *
        generalize l[i].size = sz at *
        have HB := Lib.hid hb
        have HZ := Lib.hid hb.size
        have HB3 := Lib.hid (hb.alloc hb.size (.cells #[.string nm, .int .i64 sz] 74))
        have HBAD := Lib.hid (fun h : un = false => show R = false from HRF.out (M.sysUpTo_false (n := i + 1) (by rw [HS.out, HA.out, h]; simp) (by omega)))
        have HBAD2 := Lib.hid (fun h : M.newIn l i nm = false => show R = false from HRF.out (M.sysUpTo_false (n := i + 1) (by rw [HS.out, HA.out, h]; simp) (by omega)))
        have HGO0 := Lib.hid (fun (h : un = true) (h' : M.newIn l i nm = true) => show M.sysUpTo l (i + 1) = true by rw [HS.out, HA.out, h, h', hall.out]; rfl)
        have HGO := HGO0
        have hk0 := hname
        clear hb ha hs hname
        generalize M.word nm = bw at *
        cases bw with
        | false =>
          have HK := Lib.hid (show R = false from HBAD.out (by rw [HU.out]; rfl))
          clear HBAD HGO hk0
          go_wp2_with (first | (go_at_call 62; refine (HW.out _).mono ?_; rintro e w1 ⟨rfl, rfl⟩) | (go_at_call 57; first | (refine (Base.i_within_yes _ _ _ _ (by omega) (by omega)).mono ?_; rintro e w1 ⟨rfl, rfl⟩) | (refine (Base.i_within_no _ _ _ _ (by omega)).mono ?_; rintro e w1 ⟨rfl, rfl⟩)))
          go_ret
          exact ⟨K.ret_bool HK.out.symm, HB.out.alloc HZ.out _⟩
        | true =>
          by_cases h0 : i = 0
          · have hib : ((i : Int) == 0) = true := by rw [beq_iff_eq]; omega
            have hid : decide (0 < i) = false := decide_eq_false (by omega)
            have H0 := Lib.hid h0
            clear h0
            by_cases hz : sz = 1
            · replace HGO := Lib.hid (HGO0.out (by rw [HU.out, if_pos H0.out]; simp [hz]))
              have hzb : (sz != 1) = false := by simp [hz]
              clear HBAD HU HGO0 hz
              go_wp2_with (first | (go_at_call 62; refine (HW.out _).mono ?_; rintro e w1 ⟨rfl, rfl⟩) | (go_at_call 57; first | (refine (Base.i_within_yes _ _ _ _ (by omega) (by omega)).mono ?_; rintro e w1 ⟨rfl, rfl⟩) | (refine (Base.i_within_no _ _ _ _ (by omega)).mono ?_; rintro e w1 ⟨rfl, rfl⟩)))
              go_loopw [45] (fun q wq => ∃ k : Nat, k ≤ i ∧ q = .int .i64 k ∧ Hid (M.newIn l k nm = true) ∧ Below (wr.alloc (.cells #[.string nm, .int .i64 sz] 74)).heap.size (wr.alloc (.cells #[.string nm, .int .i64 sz] 74)) wq) (fun q _ => i - (intOf q).toNat)
              case atStart => exact ⟨0, Nat.zero_le _, rfl, Lib.hid (by simp [M.newIn]), Below.refl _ _⟩
              case round =>
                obtain ⟨k, hk, rfl, hnew, hb2⟩ := hrel
                have HB2 := Lib.hid (HB3.out.trans (hb2.mono HB3.out.size))
                obtain ⟨p0, p1⟩ := (HX.out.below hb2).c2
                have pg := (HX.out.below hb2).1
                by_cases hlt2 : k < i
                · have hlt3 : k < l.length := by omega
                  obtain ⟨g2, o2, hA2, hg2, d0, d1⟩ := ((HR2.out).below hb2).unit hlt3
                  injection hA2 with hA2
                  injection hA2 with e1 e2 e3
                  subst e1 e2
                  have h3 : (k : Int) < (i : Int) := by omega
                  have h3' : (k : Int) < (l.length : Int) := by omega
                  have h4 : (0 : Int) ≤ (k : Int) := by omega
                  have HN := Lib.hid (M.newIn_succ l k hlt3 nm)
                  generalize l[k].name = nk at *
                  generalize l[k].size = sk at *
                  have HQ2 := Lib.hid hb2
                  clear hb2
                  by_cases he : nk = nm
                  · have hse := M.str_eq he
                    have HK := Lib.hid (show R = false from HBAD2.out (M.newIn_false (k := k + 1) (by rw [HN.out]; simp [he]) (by omega)))
                    clear he
                    go_wp2_with fail
                    go_ret
                    exact ⟨K.ret_bool HK.out.symm, HB2.out.alloc HB2.out.size _⟩
                  · have hse := M.str_ne he
                    have HK := Lib.hid (show M.newIn l (k + 1) nm = true by rw [HN.out, hnew.out]; simp [he])
                    clear he
                    go_wp2_with fail
                    go_roundw
                    case rel => exact ⟨k + 1, by omega, by go_num, HK, HQ2.out.alloc HQ2.out.size _⟩
                    case measure => simp [intOf]; omega
                · obtain rfl : k = i := by omega
                  have HK := Lib.hid (HGO.out hnew.out)
                  clear hb2
                  go_wp2_with fail
                  go_roundw
                  case rel => exact ⟨k + 1, by omega, by go_num, HK, HB2.out⟩
                  case measure => simp [intOf]; omega
            · have hzb : (sz != 1) = true := bne_iff_ne.2 hz
              have hzc : (sz == 1) = false := beq_eq_false_iff_ne.2 hz
              have HK := Lib.hid (show R = false from HBAD.out (by rw [HU.out, if_pos H0.out]; simp [hz]))
              clear HBAD HGO hk0
              go_wp2_with (first | (go_at_call 62; refine (HW.out _).mono ?_; rintro e w1 ⟨rfl, rfl⟩) | (go_at_call 57; first | (refine (Base.i_within_yes _ _ _ _ (by omega) (by omega)).mono ?_; rintro e w1 ⟨rfl, rfl⟩) | (refine (Base.i_within_no _ _ _ _ (by omega)).mono ?_; rintro e w1 ⟨rfl, rfl⟩)))
              go_ret
              exact ⟨K.ret_bool HK.out.symm, HB.out.alloc HZ.out _⟩
          · have h0' : (0 : Int) < (i : Int) := by omega
            have h0b : ((i : Int) == 0) = false := beq_eq_false_iff_ne.2 (by omega)
            by_cases hz : 2 ≤ sz ∧ sz ≤ 100
            · replace HGO := Lib.hid (HGO0.out (by rw [HU.out, if_neg h0, M.inR_yes hz.1 hz.2]; rfl))
              obtain ⟨hz1, hz2⟩ := hz
              clear HBAD HU HGO0
              go_wp2_with (first | (go_at_call 62; refine (HW.out _).mono ?_; rintro e w1 ⟨rfl, rfl⟩) | (go_at_call 57; first | (refine (Base.i_within_yes _ _ _ _ (by omega) (by omega)).mono ?_; rintro e w1 ⟨rfl, rfl⟩) | (refine (Base.i_within_no _ _ _ _ (by omega)).mono ?_; rintro e w1 ⟨rfl, rfl⟩)))
              go_loopw [45] (fun q wq => ∃ k : Nat, k ≤ i ∧ q = .int .i64 k ∧ Hid (M.newIn l k nm = true) ∧ Below (wr.alloc (.cells #[.string nm, .int .i64 sz] 74)).heap.size (wr.alloc (.cells #[.string nm, .int .i64 sz] 74)) wq) (fun q _ => i - (intOf q).toNat)
              case atStart => exact ⟨0, Nat.zero_le _, rfl, Lib.hid (by simp [M.newIn]), Below.refl _ _⟩
              case round =>
                obtain ⟨k, hk, rfl, hnew, hb2⟩ := hrel
                have HB2 := Lib.hid (HB3.out.trans (hb2.mono HB3.out.size))
                obtain ⟨p0, p1⟩ := (HX.out.below hb2).c2
                have pg := (HX.out.below hb2).1
                by_cases hlt2 : k < i
                · have hlt3 : k < l.length := by omega
                  obtain ⟨g2, o2, hA2, hg2, d0, d1⟩ := ((HR2.out).below hb2).unit hlt3
                  injection hA2 with hA2
                  injection hA2 with e1 e2 e3
                  subst e1 e2
                  have h3 : (k : Int) < (i : Int) := by omega
                  have h3' : (k : Int) < (l.length : Int) := by omega
                  have h4 : (0 : Int) ≤ (k : Int) := by omega
                  have HN := Lib.hid (M.newIn_succ l k hlt3 nm)
                  generalize l[k].name = nk at *
                  generalize l[k].size = sk at *
                  have HQ2 := Lib.hid hb2
                  clear hb2
                  by_cases he : nk = nm
                  · have hse := M.str_eq he
                    have HK := Lib.hid (show R = false from HBAD2.out (M.newIn_false (k := k + 1) (by rw [HN.out]; simp [he]) (by omega)))
                    clear he
                    go_wp2_with fail
                    go_ret
                    exact ⟨K.ret_bool HK.out.symm, HB2.out.alloc HB2.out.size _⟩
                  · have hse := M.str_ne he
                    have HK := Lib.hid (show M.newIn l (k + 1) nm = true by rw [HN.out, hnew.out]; simp [he])
                    clear he
                    go_wp2_with fail
                    go_roundw
                    case rel => exact ⟨k + 1, by omega, by go_num, HK, HQ2.out.alloc HQ2.out.size _⟩
                    case measure => simp [intOf]; omega
                · obtain rfl : k = i := by omega
                  have HK := Lib.hid (HGO.out hnew.out)
                  clear hb2
                  go_wp2_with fail
                  go_roundw
                  case rel => exact ⟨k + 1, by omega, by go_num, HK, HB2.out⟩
                  case measure => simp [intOf]; omega
            · have hznn : sz < 2 ∨ 100 < sz := by omega
              have HK := Lib.hid (show R = false from HBAD.out (by rw [HU.out, if_neg h0, M.inR_no hznn]; rfl))
              clear HBAD HGO hk0
              go_wp2_with (first | (go_at_call 62; refine (HW.out _).mono ?_; rintro e w1 ⟨rfl, rfl⟩) | (go_at_call 57; first | (refine (Base.i_within_yes _ _ _ _ (by omega) (by omega)).mono ?_; rintro e w1 ⟨rfl, rfl⟩) | (refine (Base.i_within_no _ _ _ _ (by omega)).mono ?_; rintro e w1 ⟨rfl, rfl⟩)))
              go_ret
              exact ⟨K.ret_bool HK.out.symm, HB.out.alloc HZ.out _⟩
      · obtain rfl : i = l.length := by omega
        have HK := Lib.hid (HRT.out hall.out)
        go_wp2
        go_ret
        exact ⟨K.ret_bool HK.out.symm, hb⟩
  · have HK := Lib.hid (show R = false by rw [HF.out, M.inR_no (n := (l.length : Int)) (by omega)]; rfl)
    go_enter Try.func20, Try.ntmps20
    go_wp2_with (go_at_call 57; refine (Base.i_within_no _ _ _ _ (by omega)).mono ?_; rintro e w1 ⟨rfl, rfl⟩)
    go_ret
    exact ⟨K.ret_bool HK.out.symm, Below.refl _ _⟩
set_option maxHeartbeats 4000000 in
theorem s_sys (A : Option Addr) (c : Nat) (l : List M.Unit) (w : World) (hl : l.length ≤ 1048576) (hs : ∀ u ∈ l, u.name.size ≤ 9223372036854775807) (hc : l.length ≤ c) (hc2 : c ≤ 9223372036854775807) (ha : K.Rd w 2 A l.length (l.flatMap M.unitCells)) :
    Calls Try.prog 60 #[.slice A l.length c] w fun e w' => e = .returned (.bool (M.sysOk l)) ∧ Below w.heap.size w w' := by
  have HF : Hid (M.sysOk l = (M.inR l.length 1 6 && M.sysUpTo l l.length)) := rfl
  generalize M.sysOk l = R at HF ⊢
  have HRF := Lib.hid (fun h : M.sysUpTo l l.length = false => show R = false by rw [HF.out, h]; simp)
  have HRT := Lib.hid (fun h : M.sysUpTo l l.length = true => show R = M.inR l.length 1 6 by rw [HF.out, h]; simp)
  go_enter Try.func60, Try.ntmps60
  go_wp2_with fail
  go_loopw [3] (fun s wr => ∃ i : Nat, i ≤ l.length ∧ s = .int .i64 i ∧ i ≤ 7 ∧ Hid (M.sysUpTo l i = true) ∧ Below w.heap.size w wr) (fun s _ => l.length - (intOf s).toNat)
  case atStart => exact ⟨0, Nat.zero_le _, rfl, by omega, Lib.hid (by simp [M.sysUpTo]), Below.refl _ _⟩
  case round =>
    obtain ⟨i, hi, rfl, hi7, hall, hb⟩ := hrel
    by_cases hlt : i < l.length ∧ i ≤ 6
    · obtain ⟨hlt, hi6⟩ := hlt
      obtain ⟨g, o, rfl, hg, c0, c1⟩ := (ha.below hb).unit hlt
      have h1 : (i : Int) < (l.length : Int) := by omega
      have h1c : (i : Int) ≤ (c : Int) := by omega
      have h2 : (0 : Int) ≤ (i : Int) := by omega
      have HS := Lib.hid (M.sysUpTo_succ l i)
      have HA := Lib.hid (M.sysAt_eq l i hlt)
      have hname := hs l[i] (List.getElem_mem _)
      have HW := Lib.hid (fun w => Word.s_word l[i].name w hname)
      have HU : Hid (M.uOk i l[i] = (M.word l[i].name && (if i = 0 then decide (l[i].size = 1) else M.inR l[i].size 2 100))) := rfl
      have HR2 := Lib.hid ((ha.below hb).alloc (.cells #[.string l[i].name, .int .i64 l[i].size] 74))
      have HX := Lib.hid (K.Box.new wr #[.string l[i].name, .int .i64 l[i].size] 74)
      generalize hun : M.uOk i l[i] = un at HA HU
      clear hun
      generalize l[i].name = nm at *
      generalize l[i].size = sz at *
      have HB := Lib.hid hb
      have HZ := Lib.hid hb.size
      have HB3 := Lib.hid (hb.alloc hb.size (.cells #[.string nm, .int .i64 sz] 74))
      have HBAD := Lib.hid (fun h : un = false => show R = false from HRF.out (M.sysUpTo_false (n := i + 1) (by rw [HS.out, HA.out, h]; simp) (by omega)))
      have HBAD2 := Lib.hid (fun h : M.newIn l i nm = false => show R = false from HRF.out (M.sysUpTo_false (n := i + 1) (by rw [HS.out, HA.out, h]; simp) (by omega)))
      have HGO0 := Lib.hid (fun (h : un = true) (h' : M.newIn l i nm = true) => show M.sysUpTo l (i + 1) = true by rw [HS.out, HA.out, h, h', hall.out]; rfl)
      have HGO := HGO0
      have hk0 := hname
      clear hb ha hs hname
      generalize M.word nm = bw at *
      cases bw with
      | false =>
        have HK := Lib.hid (show R = false from HBAD.out (by rw [HU.out]; rfl))
        clear HBAD HGO hk0
        go_wp2_with (first | (go_at_call 84; refine (HW.out _).mono ?_; rintro e w1 ⟨rfl, rfl⟩) | (go_at_call 54; first | (refine (Base.s_in_yes _ _ _ _ (by omega) (by omega)).mono ?_; rintro e w1 ⟨rfl, rfl⟩) | (refine (Base.s_in_no _ _ _ _ (by omega)).mono ?_; rintro e w1 ⟨rfl, rfl⟩)))
        go_ret
        exact ⟨K.ret_bool HK.out.symm, HB.out.alloc HZ.out _⟩
      | true =>
        by_cases h0 : i = 0
        · have hib : ((i : Int) == 0) = true := by rw [beq_iff_eq]; omega
          have hid : decide (0 < i) = false := decide_eq_false (by omega)
          have H0 := Lib.hid h0
          clear h0
          by_cases hz : sz = 1
          · replace HGO := Lib.hid (HGO0.out (by rw [HU.out, if_pos H0.out]; simp [hz]))
            have hzb : (sz != 1) = false := by simp [hz]
            clear HBAD HU HGO0 hz
            go_wp2_with (first | (go_at_call 84; refine (HW.out _).mono ?_; rintro e w1 ⟨rfl, rfl⟩) | (go_at_call 54; first | (refine (Base.s_in_yes _ _ _ _ (by omega) (by omega)).mono ?_; rintro e w1 ⟨rfl, rfl⟩) | (refine (Base.s_in_no _ _ _ _ (by omega)).mono ?_; rintro e w1 ⟨rfl, rfl⟩)))
            go_loopw [5] (fun q wq => ∃ k : Nat, k ≤ i ∧ q = .int .i64 k ∧ Hid (M.newIn l k nm = true) ∧ Below (wr.alloc (.cells #[.string nm, .int .i64 sz] 74)).heap.size (wr.alloc (.cells #[.string nm, .int .i64 sz] 74)) wq) (fun q _ => i - (intOf q).toNat)
            case atStart => exact ⟨0, Nat.zero_le _, rfl, Lib.hid (by simp [M.newIn]), Below.refl _ _⟩
            case round =>
              obtain ⟨k, hk, rfl, hnew, hb2⟩ := hrel
              have HB2 := Lib.hid (HB3.out.trans (hb2.mono HB3.out.size))
              obtain ⟨p0, p1⟩ := (HX.out.below hb2).c2
              have pg := (HX.out.below hb2).1
              by_cases hlt2 : k < i
              · have hlt3 : k < l.length := by omega
                obtain ⟨g2, o2, hA2, hg2, d0, d1⟩ := ((HR2.out).below hb2).unit hlt3
                injection hA2 with hA2
                injection hA2 with e1 e2 e3
                subst e1 e2
                have h3 : (k : Int) < (i : Int) := by omega
                have h3' : (k : Int) < (l.length : Int) := by omega
                have h4 : (0 : Int) ≤ (k : Int) := by omega
                have HN := Lib.hid (M.newIn_succ l k hlt3 nm)
                generalize l[k].name = nk at *
                generalize l[k].size = sk at *
                have HQ2 := Lib.hid hb2
                clear hb2
                by_cases he : nk = nm
                · have hse := M.str_eq he
                  have HK := Lib.hid (show R = false from HBAD2.out (M.newIn_false (k := k + 1) (by rw [HN.out]; simp [he]) (by omega)))
                  clear he
                  go_wp2_with fail
                  go_quiet (fail)
                  go_wp2_with fail
                  go_ret
                  exact ⟨K.ret_bool HK.out.symm, K.below_drewN HB2.out _⟩
                · have hse := M.str_ne he
                  have HK := Lib.hid (show M.newIn l (k + 1) nm = true by rw [HN.out, hnew.out]; simp [he])
                  clear he
                  go_wp2_with fail
                  go_quiet (fail)
                  go_wp2_with fail
                  go_roundw
                  case rel => exact ⟨k + 1, by omega, by go_num, HK, K.below_drewN HQ2.out _⟩
                  case measure => simp [intOf]; omega
              · obtain rfl : k = i := by omega
                have HK := Lib.hid (HGO.out hnew.out)
                clear hb2
                go_wp2_with fail
                go_roundw
                case rel => exact ⟨k + 1, by omega, by go_num, by omega, HK, HB2.out⟩
                case measure => simp [intOf]; omega
          · have hzb : (sz != 1) = true := bne_iff_ne.2 hz
            have hzc : (sz == 1) = false := beq_eq_false_iff_ne.2 hz
            have HK := Lib.hid (show R = false from HBAD.out (by rw [HU.out, if_pos H0.out]; simp [hz]))
            clear HBAD HGO hk0
            go_wp2_with (first | (go_at_call 84; refine (HW.out _).mono ?_; rintro e w1 ⟨rfl, rfl⟩) | (go_at_call 54; first | (refine (Base.s_in_yes _ _ _ _ (by omega) (by omega)).mono ?_; rintro e w1 ⟨rfl, rfl⟩) | (refine (Base.s_in_no _ _ _ _ (by omega)).mono ?_; rintro e w1 ⟨rfl, rfl⟩)))
            go_ret
            exact ⟨K.ret_bool HK.out.symm, HB.out.alloc HZ.out _⟩
        · have h0' : (0 : Int) < (i : Int) := by omega
          have h0b : ((i : Int) == 0) = false := beq_eq_false_iff_ne.2 (by omega)
          by_cases hz : 2 ≤ sz ∧ sz ≤ 100
          · replace HGO := Lib.hid (HGO0.out (by rw [HU.out, if_neg h0, M.inR_yes hz.1 hz.2]; rfl))
            obtain ⟨hz1, hz2⟩ := hz
            clear HBAD HU HGO0
            go_wp2_with (first | (go_at_call 84; refine (HW.out _).mono ?_; rintro e w1 ⟨rfl, rfl⟩) | (go_at_call 54; first | (refine (Base.s_in_yes _ _ _ _ (by omega) (by omega)).mono ?_; rintro e w1 ⟨rfl, rfl⟩) | (refine (Base.s_in_no _ _ _ _ (by omega)).mono ?_; rintro e w1 ⟨rfl, rfl⟩)))
            go_loopw [5] (fun q wq => ∃ k : Nat, k ≤ i ∧ q = .int .i64 k ∧ Hid (M.newIn l k nm = true) ∧ Below (wr.alloc (.cells #[.string nm, .int .i64 sz] 74)).heap.size (wr.alloc (.cells #[.string nm, .int .i64 sz] 74)) wq) (fun q _ => i - (intOf q).toNat)
            case atStart => exact ⟨0, Nat.zero_le _, rfl, Lib.hid (by simp [M.newIn]), Below.refl _ _⟩
            case round =>
              obtain ⟨k, hk, rfl, hnew, hb2⟩ := hrel
              have HB2 := Lib.hid (HB3.out.trans (hb2.mono HB3.out.size))
              obtain ⟨p0, p1⟩ := (HX.out.below hb2).c2
              have pg := (HX.out.below hb2).1
              by_cases hlt2 : k < i
              · have hlt3 : k < l.length := by omega
                obtain ⟨g2, o2, hA2, hg2, d0, d1⟩ := ((HR2.out).below hb2).unit hlt3
                injection hA2 with hA2
                injection hA2 with e1 e2 e3
                subst e1 e2
                have h3 : (k : Int) < (i : Int) := by omega
                have h3' : (k : Int) < (l.length : Int) := by omega
                have h4 : (0 : Int) ≤ (k : Int) := by omega
                have HN := Lib.hid (M.newIn_succ l k hlt3 nm)
                generalize l[k].name = nk at *
                generalize l[k].size = sk at *
                have HQ2 := Lib.hid hb2
                clear hb2
                by_cases he : nk = nm
                · have hse := M.str_eq he
                  have HK := Lib.hid (show R = false from HBAD2.out (M.newIn_false (k := k + 1) (by rw [HN.out]; simp [he]) (by omega)))
                  clear he
                  go_wp2_with fail
                  go_quiet (fail)
                  go_wp2_with fail
                  go_ret
                  exact ⟨K.ret_bool HK.out.symm, K.below_drewN HB2.out _⟩
                · have hse := M.str_ne he
                  have HK := Lib.hid (show M.newIn l (k + 1) nm = true by rw [HN.out, hnew.out]; simp [he])
                  clear he
                  go_wp2_with fail
                  go_quiet (fail)
                  go_wp2_with fail
                  go_roundw
                  case rel => exact ⟨k + 1, by omega, by go_num, HK, K.below_drewN HQ2.out _⟩
                  case measure => simp [intOf]; omega
              · obtain rfl : k = i := by omega
                have HK := Lib.hid (HGO.out hnew.out)
                clear hb2
                go_wp2_with fail
                go_roundw
                case rel => exact ⟨k + 1, by omega, by go_num, by omega, HK, HB2.out⟩
                case measure => simp [intOf]; omega
          · have hznn : sz < 2 ∨ 100 < sz := by omega
            have HK := Lib.hid (show R = false from HBAD.out (by rw [HU.out, if_neg h0, M.inR_no hznn]; rfl))
            clear HBAD HGO hk0
            go_wp2_with (first | (go_at_call 84; refine (HW.out _).mono ?_; rintro e w1 ⟨rfl, rfl⟩) | (go_at_call 54; first | (refine (Base.s_in_yes _ _ _ _ (by omega) (by omega)).mono ?_; rintro e w1 ⟨rfl, rfl⟩) | (refine (Base.s_in_no _ _ _ _ (by omega)).mono ?_; rintro e w1 ⟨rfl, rfl⟩)))
            go_ret
            exact ⟨K.ret_bool HK.out.symm, HB.out.alloc HZ.out _⟩
    · have HK := Lib.hid (show R = M.inR l.length 1 6 from by
        by_cases e : i = l.length
        · subst e; exact HRT.out hall.out
        · have : M.inR l.length 1 6 = false := M.inR_no (by omega)
          rw [HF.out, this]; rfl)
      by_cases e : i < l.length
      · have h1 : (i : Int) < (l.length : Int) := by omega
        have h6 : ¬ (i : Int) ≤ 6 := by omega
        go_wp2_with (go_at_call 54; refine (Base.s_in _ _ _ _).mono ?_; rintro e w1 ⟨rfl, rfl⟩)
        go_ret
        exact ⟨K.ret_bool HK.out.symm, hb⟩
      · have hd : decide ((i : Int) < (l.length : Int)) = false := decide_eq_false (by omega)
        go_wp2_with (go_at_call 54; refine (Base.s_in _ _ _ _).mono ?_; rintro e w1 ⟨rfl, rfl⟩)
        go_ret
        exact ⟨K.ret_bool HK.out.symm, hb⟩
theorem s_issys (A : Option Addr) (c : Nat) (l : List M.Unit) (w : World) (hl : l.length ≤ 1048576) (hs : ∀ u ∈ l, u.name.size ≤ 9223372036854775807) (hc : l.length ≤ c) (hc2 : c ≤ 9223372036854775807) (ha : K.Rd w 2 A l.length (l.flatMap M.unitCells)) :
    Calls Try.prog 18 #[.slice A l.length c] w fun e w' => e = .returned (.bool (M.sysOk l)) ∧ Below w.heap.size w w' := by
  go_enter Try.func18, Try.ntmps18
  go_wp2_with fail
  refine (s_sys A c l _ hl hs hc hc2 ha).mono ?_
  rintro e w1 ⟨rfl, b1⟩
  go_wp2
  go_ret
  exact ⟨rfl, b1⟩
end Go.Proofs.Ytfgnmjnlhnpmoaa.Sys
