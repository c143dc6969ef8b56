/-
  The walk of FnStrings.
-/
import Derived.Test.YtpeoikhddmoafaaArg
import Derived.Test.YtpeoikhddmoafaaGrStr2
import Derived.Deep.DeepCutAuto
import Derived.Deep.RegionWith
set_option linter.unusedVariables false
namespace Go.Proofs.Ytpeoikhddmoafaa.fnStrings
open Go.ChangeShapes Go.WideShapes Go.ChangeAt Go.RowKit
theorem fmt_parse {n m : Int} {ok there : Bool} (h : (M.fmtInt n).2 = true) (hp : M.Parses (M.fmtInt n).1 m there) : there = true ∧ m = n := by
  by_cases hn : -999999 ≤ n ∧ n ≤ 999999
  · rw [M.fmtInt_yes hn] at hp
    obtain ⟨e1, e2⟩ := M.Parses.uniq hp (.inl ⟨rfl, hn.1, hn.2, rfl⟩)
    exact ⟨e2, e1⟩
  · rw [M.fmtInt_no (by omega)] at h; cases h
theorem fmt_size {n : Int} : (M.fmtInt n).1.size ≤ 20 := by
  by_cases hn : -999999 ≤ n ∧ n ≤ 999999
  · rw [M.fmtInt_yes hn]; exact M.txt_size20 (by omega) (by omega)
  · rw [M.fmtInt_no (by omega)]; simp
theorem sealed_true {x : ByteArray} (h : (M.sealed x).2 = true) : M.stands x.data.toList 35 = false ∧ (M.sealed x).1.data.toList = M.sl x.data.toList ∧ (M.sealed x).1.size ≤ 4000 ∧ 2 ≤ (M.sealed x).1.size := by
  by_cases hc : x.size ≤ 4000 ∧ M.stands x.data.toList 35 = false ∧ (M.seal_ x).size ≤ 4000
  · rw [M.sealed_yes hc.1 hc.2.1 hc.2.2]
    have := M.seal_size x
    exact ⟨hc.2.1, M.seal_toList x, hc.2.2, by simp only; omega⟩
  · rw [M.sealed_no hc] at h; cases h
theorem add_off {H j : Nat} : (⟨H, 0, none⟩ : Addr).add j = ⟨H, j, none⟩ := by
  unfold Addr.add
  split
  · rename_i h
    rw [h]
  · simp only [Nat.zero_add]
theorem cells_set {wb wz : World} {H k v : Nat} {Y : ByteArray} (hc : ∀ j, j < Y.size → wb.cell? ⟨H, j, none⟩ = some (.int .u8 ((Y.data.toList.getD j 0).toNat : Int))) (hz : wz = (wb.setCell ⟨H, k, none⟩ (.int .u8 (v : Int))).drew) (hv : v < 256) (hk : k < Y.size) :
    ∀ j (hj : j < (Y.data.toList.set k (UInt8.ofNat v)).length), wz.cell? ((⟨H, 0, none⟩ : Addr).add j) = some (.int .u8 ((Y.data.toList.set k (UInt8.ofNat v))[j].toNat : Int)) := by
  intro j hj
  have hl : Y.data.toList.length = Y.size := by simp
  rw [List.length_set] at hj
  have ha : (⟨H, 0, none⟩ : Addr).add j = ⟨H, j, none⟩ := add_off
  rw [ha, hz, World.cell?_drew]
  by_cases e : j = k
  · subst e
    rw [World.cell?_setCell_same _ _ _ (hc j hk)]
    simp
    omega
  · rw [World.cell?_setCell_other _ _ _ _ (by intro h; injection h with _ h2; exact e h2.symm), hc j (by omega)]
    rw [List.getElem_set_ne (by omega)]
    simp [List.getD_eq_getElem?_getD, List.getElem?_eq_getElem hj]
theorem byte_ne {Y : ByteArray} {b k v : Nat} (hb : b = (Y.data.toList.getD k 0).toNat) (hk : k < Y.size) (hv : v < 256) (hn : v ≠ b) : Y.data.toList[k]? ≠ some (UInt8.ofNat v) := by
  intro e
  rw [List.getD_eq_getElem?_getD, e] at hb
  simp at hb
  omega
theorem set_size {Y : ByteArray} {k : Nat} {v : UInt8} : (⟨(Y.data.toList.set k v).toArray⟩ : ByteArray).size = Y.size := by
  have hl : Y.data.toList.length = Y.size := by simp
  have : (⟨(Y.data.toList.set k v).toArray⟩ : ByteArray).size = (Y.data.toList.set k v).length := rfl
  rw [this, List.length_set, hl]
theorem conv_set {wz : World} {H k v : Nat} {Y : ByteArray} (c : Nat)
    (hc : ∀ j (hj : j < (Y.data.toList.set k (UInt8.ofNat v)).length), wz.cell? ((⟨H, 0, none⟩ : Addr).add j) = some (.int .u8 ((Y.data.toList.set k (UInt8.ofNat v))[j].toNat : Int))) :
    (convert 39 9 (.slice (some ⟨H, 0, none⟩) (Y.size : Nat) c)).run Try.prog wz = .ok (.string ⟨(Y.data.toList.set k (UInt8.ofNat v)).toArray⟩) wz := by
  have hl : (Y.data.toList.set k (UInt8.ofNat v)).length = Y.size := by rw [List.length_set]; simp
  have := run_convert_bytes_back (P := Try.prog) wz 39 9 5 ⟨H, 0, none⟩ c (Y.data.toList.set k (UInt8.ofNat v)) Try.underlying39 Try.underlying5 Try.underlying9 hc
  rw [hl] at this
  exact this
set_option maxRecDepth 100000 in
set_option maxHeartbeats 16000000 in
/-- the walk: the law's text returns true; nothing that was there has turned. -/
theorem walk (A0 : Option Addr) (c0 : Nat) (l0 : List UInt8) (W : World) (h0 : K.Rd W 1 A0 l0.length (l0.map fun b => Value.int .u8 (b.toNat : Int))) (m0 : l0.length ≤ 9223372036854775807) :
    Calls Try.prog 13 #[.slice A0 l0.length c0] W fun e w' => e = .returned (.bool true) ∧ Below W.heap.size W w' := by
  by_cases hbig : 65536 < l0.length
  · have hd : decide (65536 < l0.length) = true := decide_eq_true hbig
    go_enter Try.func13, Try.ntmps13
    go_wp2_with fail
    refine (GrStr.vbig _ _ _ _).mono ?_
    rintro e w1 ⟨rfl, rfl⟩
    rw [hd]
    go_wp2_with fail
    go_ret
    exact ⟨rfl, Below.refl _ _⟩
  · have hd : decide (65536 < l0.length) = false := decide_eq_false hbig
    have hl : l0.length ≤ 65536 := by omega
    clear hbig
    go_enter Try.func13, Try.ntmps13
    go_wp2_with fail
    refine (GrStr.vbig _ _ _ _).mono ?_
    rintro e w0 ⟨rfl, rfl⟩
    rw [hd]
    clear hd
    go_wp2_with fail
    refine (Draw1.fmt A0 c0 l0 _ hl h0).mono ?_
    rintro e w1 ⟨n, rfl, hn, b1⟩
    have q1 := Lib.hid b1
    have r1 := Lib.hid (h0.below b1)
    have HF1 := Lib.hid (fun w => Str.i_fmt n w)
    have HF2 := Lib.hid (fun w => Str.s_fmt n w)
    have hfz := fmt_size (n := n)
    have HFP := Lib.hid (fun (m : Int) (there : Bool) (h : (M.fmtInt n).2 = true) (hp : M.Parses (M.fmtInt n).1 m there) => fmt_parse (ok := true) h hp)
    generalize M.fmtInt n = F at *
    obtain ⟨F1, F2⟩ := F
    dsimp only at *
    have hf2 : (F2 != F2) = false := by simp
    clear b1
    go_wp2_with fail
    refine (HF1.out _).mono ?_
    rintro e w2 ⟨rfl, b2⟩
    have q2 := Lib.hid (q1.out.trans (b2.mono q1.out.size))
    clear b2
    go_wp2_with fail
    refine (HF2.out _).mono ?_
    rintro e w3 ⟨rfl, b3⟩
    have q3 := Lib.hid (q2.out.trans (b3.mono q2.out.size))
    have r3 := Lib.hid (h0.below q3.out)
    clear b3
    go_wp2_with fail
    refine (Draw1.par A0 c0 l0 _ hl r3.out).mono ?_
    rintro e w4 ⟨t, rfl, ht, b4⟩
    have q4 := Lib.hid (q3.out.trans (b4.mono q3.out.size))
    have HP1 := Lib.hid (fun w => Parse.i_parse t w (by omega))
    have HP2 := Lib.hid (fun w => Parse.s_parse t w (by omega))
    clear b4
    go_wp2_with fail
    refine (HP1.out _).mono ?_
    rintro e w5 ⟨m, ok, rfl, hpa, b5⟩
    have q5 := Lib.hid (q4.out.trans (b5.mono q4.out.size))
    have HPA := Lib.hid hpa
    clear b5 hpa
    go_wp2_with fail
    refine (HP2.out _).mono ?_
    rintro e w6 ⟨m', ok', rfl, hpa', b6⟩
    obtain ⟨em, eo⟩ := M.Parses.uniq hpa' HPA.out
    subst em eo
    have hm2 : (m' != m') = false := by simp
    have ho2 : (ok' != ok') = false := by simp
    have q6 := Lib.hid (q5.out.trans (b6.mono q5.out.size))
    have r6 := Lib.hid (h0.below q6.out)
    clear b6 hpa' HPA
    go_wp2_with fail
    refine (Draw1.app A0 c0 l0 _ hl r6.out).mono ?_
    rintro e w7 ⟨x, rfl, hx, b7⟩
    have q7 := Lib.hid (q6.out.trans (b7.mono q6.out.size))
    have HA1 := Lib.hid (fun w => Str.i_append x w (by omega))
    have HA2 := Lib.hid (fun w => Str.s_append x w (by omega))
    have HST := Lib.hid (fun h => sealed_true (x := x) h)
    have HSF := Lib.hid (fun h => M.sealed_false (x := x) h)
    have HSV := Lib.hid (fun h => M.verify_sealed_ (x := x) h)
    generalize M.sealed x = Y at *
    obtain ⟨Y1, Y2⟩ := Y
    dsimp only at *
    have hy2 : (Y2 != Y2) = false := by simp
    clear b7
    go_wp2_with fail
    refine (HA1.out _).mono ?_
    rintro e w8 ⟨rfl, b8⟩
    have q8 := Lib.hid (q7.out.trans (b8.mono q7.out.size))
    clear b8
    go_wp2_with fail
    refine (HA2.out _).mono ?_
    rintro e w9 ⟨rfl, b9⟩
    have q9 := Lib.hid (q8.out.trans (b9.mono q8.out.size))
    clear b9
    have HPF := Lib.hid (fun w => Parse.i_parse F1 w (by omega))
    go_wp2_with fail
    refine (HPF.out _).mono ?_
    rintro e w10 ⟨m2, there, rfl, hpb, b10⟩
    have q10 := Lib.hid (q9.out.trans (b10.mono q9.out.size))
    have HPB := Lib.hid hpb
    clear b10 hpb
    cases F2 with
    | true =>
      obtain ⟨e1, e2⟩ := HFP.out m2 there rfl HPB.out
      subst e1 e2
      have hnn : (m2 != m2) = false := by simp
      clear HFP HPB HPF HF1 HF2 HP1 HP2 HA1 HA2
      cases Y2 with
      | false =>
        have hY := HSF.out rfl
        subst hY
        clear HST HSF HSV
        go_wp2_with fail
        go_ret
        exact ⟨rfl, q10.out⟩
      | true =>
        obtain ⟨hst, hsl, hs4, hs2⟩ := HST.out rfl
        have hv := HSV.out rfl
        have HV1 := Lib.hid (fun w => Str.i_verify Y1 w (by omega))
        rw [hv] at HV1
        have HSL := Lib.hid hsl
        have HSS := Lib.hid hst
        clear HST HSF HSV hv hsl hst
        go_wp2_with fail
        refine (HV1.out _).mono ?_
        rintro e w11 ⟨rfl, b11⟩
        have q11 := Lib.hid (q10.out.trans (b11.mono q10.out.size))
        clear b11
        have hcv := fun (w : World) => Lib.run_convert_string_bytes (P := Try.prog) w 9 39 5 Y1 Try.underlying9 Try.underlying39 Try.underlying5
        go_upto_region 21 with fail
        clear hcv
        obtain ⟨wb, hwb⟩ : ∃ wb, wb = Lib.bytesWorld w11 5 Y1 := ⟨_, rfl⟩
        have HCB := Lib.hid (fun j hj => show wb.cell? ⟨w11.heap.size, j, none⟩ = some (.int .u8 ((Y1.data.toList.getD j 0).toNat : Int)) by rw [hwb]; exact Lib.bytesWorld_cell w11 _ Y1 j hj)
        have HFB := Lib.hid (fun j hj => show wb.frozen? ⟨w11.heap.size, j, none⟩ = false by rw [hwb]; exact GrStr.bw_frozen w11 _ Y1 j hj)
        have q12 := Lib.hid (show Below W.heap.size W wb by rw [hwb]; exact q11.out.trans ((GrStr.bw_below w11 _ Y1).mono q11.out.size))
        have hgb : w11.heap.size < wb.heap.size := by rw [hwb, Lib.bytesWorld_size]; omega
        have hq11 := q11.out.size
        rw [← hwb]
        clear hwb
        generalize w11.heap.size = H at *
        have r12 := Lib.hid (h0.below q12.out)
        go_wp2_with fail
        refine (GrStr.vat A0 c0 l0 9 _ (by omega) hl r12.out).mono ?_
        rintro e w13 ⟨k0, rfl, ⟨k1, k2⟩, rfl⟩
        have hzn : ¬ ((Y1.size : Int) = 0) := by omega
        have e1 := Int.emod_nonneg k0 hzn
        have e2 := Int.emod_lt_of_pos k0 (show (0 : Int) < (Y1.size : Int) by omega)
        go_upto_region 22 with fail
        generalize k0 % (Y1.size : Int) = kk at *
        obtain ⟨k, rfl⟩ := Int.eq_ofNat_of_zero_le e1
        have hk : k < Y1.size := by omega
        have hkb := HCB.out k hk
        have hkf := HFB.out k hk
        have hb256 : (Y1.data.toList.getD k 0).toNat < 256 := (Y1.data.toList.getD k 0).toNat_lt
        obtain ⟨b, hbe⟩ : ∃ b, b = (Y1.data.toList.getD k 0).toNat := ⟨_, rfl⟩
        rw [← hbe] at hkb hb256
        have HBE := Lib.hid hbe
        have HV10 := Lib.hid (fun w h => GrStr.vat A0 c0 l0 10 w (by omega) hl h)
        clear hbe
        go_region_with ((go_at_call 42; refine (HV10.out _ (by exact r12.out.drew)).mono ?_; rintro e w14 ⟨y, rfl, ⟨y1, y2⟩, hww⟩; subst hww; have y3 := Int.emod_nonneg y (show (255 : Int) ≠ 0 by omega); have y4 := Int.emod_lt_of_pos y (show (0 : Int) < 255 by omega); have hw1 : IntKind.i64.wrap (1 + y % 255) = 1 + y % 255 := IntWalk.i64_in _ (by omega); have hw2 : IntKind.u8.wrap (1 + y % 255) = 1 + y % 255 := by simp only [IntKind.wrap, IntKind.bits, IntKind.signed, Bool.false_and, if_neg (show ¬ (false = true) by simp)]; omega))
        all_goals rw [Int.tmod_eq_emod_of_nonneg y1, hw1, hw2]
        all_goals obtain ⟨v, hv1, hv2, hv3⟩ := GrStr.xor_ne b (1 + y % 255).toNat hb256 (by omega) (by omega)
        all_goals rw [show ((1 + y % 255).toNat : Int) = 1 + y % 255 from Int.toNat_of_nonneg (by omega)] at hv3
        all_goals rw [hv3]
        all_goals clear hv3 hw1 hw2
        all_goals obtain ⟨wz, hwz⟩ : ∃ wz, wz = (wb.setCell ⟨H, k, none⟩ (.int .u8 (v : Int))).drew := ⟨_, rfl⟩
        all_goals have q13 := Lib.hid (show Below W.heap.size W wz by rw [hwz]; exact (Below.setCell (p := ⟨H, k, none⟩) q12.out hq11 _).drew)
        all_goals have hcz := cells_set HCB.out hwz hv1 hk
        all_goals rw [← hwz]
        all_goals clear hwz
        all_goals have hcv2 : ∀ c : Nat, (convert 39 9 (.slice (some ⟨H, 0, none⟩) (Y1.size : Nat) c)).run Try.prog wz = .ok (.string ⟨(Y1.data.toList.set k (UInt8.ofNat v)).toArray⟩) wz := fun c => conv_set c hcz
        all_goals have hvb := M.verify_bad HSS.out k (by rw [← HSL.out]; exact hk) (UInt8.ofNat v) (by rw [← HSL.out]; exact byte_ne HBE.out hk hv1 hv2) (s := ⟨(Y1.data.toList.set k (UInt8.ofNat v)).toArray⟩) (by rw [← HSL.out])
        all_goals have hsz := set_size (Y := Y1) (k := k) (v := UInt8.ofNat v)
        all_goals generalize (⟨(Y1.data.toList.set k (UInt8.ofNat v)).toArray⟩ : ByteArray) = Z at *
        all_goals have HVZ := Lib.hid (fun w => Str.i_verify Z w (by omega))
        all_goals rw [hvb] at HVZ
        all_goals clear hcz hvb
        all_goals go_wp2_with fail
        all_goals (refine (HVZ.out _).mono ?_; rintro e w15 ⟨rfl, b15⟩)
        all_goals have q15 := Lib.hid (q13.out.trans (b15.mono q13.out.size))
        all_goals clear b15 hcv2
        all_goals go_wp2_with fail
        all_goals go_ret
        all_goals exact ⟨rfl, q15.out⟩
    | false =>
      clear HFP HPB HPF HF1 HF2 HP1 HP2 HA1 HA2
      cases Y2 with
      | false =>
        have hY := HSF.out rfl
        subst hY
        clear HST HSF HSV
        go_wp2_with fail
        go_ret
        exact ⟨rfl, q10.out⟩
      | true =>
        obtain ⟨hst, hsl, hs4, hs2⟩ := HST.out rfl
        have hv := HSV.out rfl
        have HV1 := Lib.hid (fun w => Str.i_verify Y1 w (by omega))
        rw [hv] at HV1
        have HSL := Lib.hid hsl
        have HSS := Lib.hid hst
        clear HST HSF HSV hv hsl hst
        go_wp2_with fail
        refine (HV1.out _).mono ?_
        rintro e w11 ⟨rfl, b11⟩
        have q11 := Lib.hid (q10.out.trans (b11.mono q10.out.size))
        clear b11
        have hcv := fun (w : World) => Lib.run_convert_string_bytes (P := Try.prog) w 9 39 5 Y1 Try.underlying9 Try.underlying39 Try.underlying5
        go_upto_region 21 with fail
        clear hcv
        obtain ⟨wb, hwb⟩ : ∃ wb, wb = Lib.bytesWorld w11 5 Y1 := ⟨_, rfl⟩
        have HCB := Lib.hid (fun j hj => show wb.cell? ⟨w11.heap.size, j, none⟩ = some (.int .u8 ((Y1.data.toList.getD j 0).toNat : Int)) by rw [hwb]; exact Lib.bytesWorld_cell w11 _ Y1 j hj)
        have HFB := Lib.hid (fun j hj => show wb.frozen? ⟨w11.heap.size, j, none⟩ = false by rw [hwb]; exact GrStr.bw_frozen w11 _ Y1 j hj)
        have q12 := Lib.hid (show Below W.heap.size W wb by rw [hwb]; exact q11.out.trans ((GrStr.bw_below w11 _ Y1).mono q11.out.size))
        have hgb : w11.heap.size < wb.heap.size := by rw [hwb, Lib.bytesWorld_size]; omega
        have hq11 := q11.out.size
        rw [← hwb]
        clear hwb
        generalize w11.heap.size = H at *
        have r12 := Lib.hid (h0.below q12.out)
        go_wp2_with fail
        refine (GrStr.vat A0 c0 l0 9 _ (by omega) hl r12.out).mono ?_
        rintro e w13 ⟨k0, rfl, ⟨k1, k2⟩, rfl⟩
        have hzn : ¬ ((Y1.size : Int) = 0) := by omega
        have e1 := Int.emod_nonneg k0 hzn
        have e2 := Int.emod_lt_of_pos k0 (show (0 : Int) < (Y1.size : Int) by omega)
        go_upto_region 22 with fail
        generalize k0 % (Y1.size : Int) = kk at *
        obtain ⟨k, rfl⟩ := Int.eq_ofNat_of_zero_le e1
        have hk : k < Y1.size := by omega
        have hkb := HCB.out k hk
        have hkf := HFB.out k hk
        have hb256 : (Y1.data.toList.getD k 0).toNat < 256 := (Y1.data.toList.getD k 0).toNat_lt
        obtain ⟨b, hbe⟩ : ∃ b, b = (Y1.data.toList.getD k 0).toNat := ⟨_, rfl⟩
        rw [← hbe] at hkb hb256
        have HBE := Lib.hid hbe
        have HV10 := Lib.hid (fun w h => GrStr.vat A0 c0 l0 10 w (by omega) hl h)
        clear hbe
        go_region_with ((go_at_call 42; refine (HV10.out _ (by exact r12.out.drew)).mono ?_; rintro e w14 ⟨y, rfl, ⟨y1, y2⟩, hww⟩; subst hww; have y3 := Int.emod_nonneg y (show (255 : Int) ≠ 0 by omega); have y4 := Int.emod_lt_of_pos y (show (0 : Int) < 255 by omega); have hw1 : IntKind.i64.wrap (1 + y % 255) = 1 + y % 255 := IntWalk.i64_in _ (by omega); have hw2 : IntKind.u8.wrap (1 + y % 255) = 1 + y % 255 := by simp only [IntKind.wrap, IntKind.bits, IntKind.signed, Bool.false_and, if_neg (show ¬ (false = true) by simp)]; omega))
        all_goals rw [Int.tmod_eq_emod_of_nonneg y1, hw1, hw2]
        all_goals obtain ⟨v, hv1, hv2, hv3⟩ := GrStr.xor_ne b (1 + y % 255).toNat hb256 (by omega) (by omega)
        all_goals rw [show ((1 + y % 255).toNat : Int) = 1 + y % 255 from Int.toNat_of_nonneg (by omega)] at hv3
        all_goals rw [hv3]
        all_goals clear hv3 hw1 hw2
        all_goals obtain ⟨wz, hwz⟩ : ∃ wz, wz = (wb.setCell ⟨H, k, none⟩ (.int .u8 (v : Int))).drew := ⟨_, rfl⟩
        all_goals have q13 := Lib.hid (show Below W.heap.size W wz by rw [hwz]; exact (Below.setCell (p := ⟨H, k, none⟩) q12.out hq11 _).drew)
        all_goals have hcz := cells_set HCB.out hwz hv1 hk
        all_goals rw [← hwz]
        all_goals clear hwz
        all_goals have hcv2 : ∀ c : Nat, (convert 39 9 (.slice (some ⟨H, 0, none⟩) (Y1.size : Nat) c)).run Try.prog wz = .ok (.string ⟨(Y1.data.toList.set k (UInt8.ofNat v)).toArray⟩) wz := fun c => conv_set c hcz
        all_goals have hvb := M.verify_bad HSS.out k (by rw [← HSL.out]; exact hk) (UInt8.ofNat v) (by rw [← HSL.out]; exact byte_ne HBE.out hk hv1 hv2) (s := ⟨(Y1.data.toList.set k (UInt8.ofNat v)).toArray⟩) (by rw [← HSL.out])
        all_goals have hsz := set_size (Y := Y1) (k := k) (v := UInt8.ofNat v)
        all_goals generalize (⟨(Y1.data.toList.set k (UInt8.ofNat v)).toArray⟩ : ByteArray) = Z at *
        all_goals have HVZ := Lib.hid (fun w => Str.i_verify Z w (by omega))
        all_goals rw [hvb] at HVZ
        all_goals clear hcz hvb
        all_goals go_wp2_with fail
        all_goals (refine (HVZ.out _).mono ?_; rintro e w15 ⟨rfl, b15⟩)
        all_goals have q15 := Lib.hid (q13.out.trans (b15.mono q13.out.size))
        all_goals clear b15 hcv2
        all_goals go_wp2_with fail
        all_goals go_ret
        all_goals exact ⟨rfl, q15.out⟩
end Go.Proofs.Ytpeoikhddmoafaa.fnStrings
