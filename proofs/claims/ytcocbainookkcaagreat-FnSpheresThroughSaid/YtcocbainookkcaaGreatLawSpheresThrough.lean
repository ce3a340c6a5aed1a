/-
  The law FnSpheresThrough returns true.
  No condition.
-/
import Derived.Test.YtcocbainookkcaaGreatPart10
import Derived.Test.YtcocbainookkcaaGreatPart11
import Derived.Test.YtcocbainookkcaaGreatPart7
import Derived.Test.YtcocbainookkcaaGreatPart4
namespace Go.Proofs.YtcocbainookkcaaGreat
set_option maxRecDepth 100000
open Go.RowKit

theorem isB_push9 {p r : Int} {xs : List Int} (h : isB p xs = true) (h1 : 0 ≤ r) (h2 : r < p) : isB p (xs ++ [r]) = true := by
  unfold isB at h ⊢
  rw [List.all_append, h]
  simp [inB]; omega
theorem isB_good9 {p : Int} {xs : List Int} {n : Nat} (h1 : xs.length = n) (h : isB p xs = true) : Good p n xs := good_isB h1 h
/-- A number list, a number and the code 0. -/
def SPred.tup3 (B n : Nat) (xs : List Int) (r : Int) : SPred :=
  ⟨fun v w => ∃ g rc, v = .tuple #[.slice (some ⟨g, 0, none⟩) n rc, .int .i64 r, .int .i64 0] ∧ OwnC B w (some ⟨g, 0, none⟩) n rc xs, fun _ _ _ ⟨g, rc, h1, h2⟩ he => ⟨g, rc, h1, h2.ext he⟩⟩

set_option maxHeartbeats 32000000 in
set_option maxRecDepth 100000 in
theorem law_SpheresThrough (w : World) (ac : Option Addr) (nc cc : Nat) (hb : RdY w ac nc) :
    Calls Tryz.prog 3 #[.slice ac nc cc] w fun e w' => e = .returned (.bool true) ∧ Ext w w' := by
  have HB := Lib.hid hb
  clear hb
  go_enter Tryz.func3, Tryz.ntmps3
  go_wp2_with (fail)
  refine Calls.mono (l_big ac nc cc w) ?_
  rintro e w1 ⟨rfl, g0⟩
  have E := Lib.hid g0
  by_cases hbig : 4096 < nc
  · have hbb : decide (4096 < nc) = true := by simp [hbig]
    rw [hbb]
    go_wp2_with (fail)
    go_ret
    exact ⟨rfl, E.out⟩
  have hbb : decide (4096 < nc) = false := by simp [hbig]
  rw [hbb]
  clear g0 hbb
  go_wp2_with (fail)
  refine Calls.mono (s_drawSphereThrough ac nc cc w1 (by omega) (HB.out.ext E.out)) ?_
  rintro e w2 ⟨p, a, d, cap, qs, al, n, cl, vs, rfl, hp0, hp1, hd, hn9, hlen, hq, hl, g1⟩
  have E1 := Lib.hid g1
  replace E := Lib.hid (E.out.trans g1)
  have HQ := Lib.hid hq.rd
  have HL := Lib.hid hl.rd
  have HRL : Hid (∀ i, i < n → (nthR vs i).length ≤ 4194304) := Lib.hid (fun i hi => by have := hlen i hi; omega)
  have HVN := Lib.hid hl.rd.1
  have HBASE := Lib.hid hl
  clear hq hl g1 hlen
  go_wp2_with (fail)
  obtain ⟨O, hO⟩ : ∃ O, O = w2.heap.size := ⟨_, rfl⟩
  obtain ⟨W, hW⟩ : ∃ W, W = w2.alloc (.cells #[.int .i64 p, .slice a d cap] 26) := ⟨_, rfl⟩
  have C0 := Lib.hid (show W.cell? ⟨O, 0, none⟩ = some (.int .i64 p) by rw [hW, hO]; simp)
  have C1 := Lib.hid (show W.cell? ⟨O, 1, none⟩ = some (.slice a d cap) by rw [hW, hO]; simp)
  have gg : Ext w2 W := by rw [hW]; exact ext_alloc _ _
  rw [← hO, ← hW]
  clear hO hW E1
  replace E := Lib.hid (E.out.trans gg)
  replace HQ := Lib.hid (HQ.out.ext gg)
  replace HL := Lib.hid (HL.out.ext gg)
  clear gg
  obtain ⟨M, hM⟩ : ∃ M, M = (spL p qs vs).length := ⟨_, rfl⟩
  have HM := Lib.hid hM
  obtain ⟨C, hC⟩ : ∃ C, C = codeSp p qs vs := ⟨_, rfl⟩
  have HC := Lib.hid hC
  obtain ⟨M2, hM2⟩ : ∃ M, M = (weL p qs vs).length := ⟨_, rfl⟩
  have HM2 := Lib.hid hM2
  obtain ⟨D, hD⟩ : ∃ D, D = code18L p qs vs := ⟨_, rfl⟩
  have HD := Lib.hid hD
  have hMb : M ≤ 4194304 := by
    rw [hM]; unfold spL
    split
    · rename_i h; rw [(sphL_good (code18L_prime (sp_zero h).1) (sp_zero h).2).1, HQ.out.1]; omega
    · simp
  have hM2b : M2 ≤ 4194304 := by
    rw [hM2]; unfold weL
    split
    · rename_i h
      have h4 := (code18_zero (code18L_zero h).1).2.1
      rw [(wp_good (prime_bd (code18L_prime h)).1).1]
      have := pow_le64 (d := qs.length + 2) (by omega)
      omega
    · simp
  clear hM hC hM2 hD
  have x00 := C0.out
  have x01 := C1.out
  go_wp2_with (fail)
  clear x00 x01
  refine Calls.mono (c_SphereThrough_any p a d cap qs al n cl vs M W HM.out (by omega) (by omega) HRL.out HQ.out HL.out) ?_
  rintro e v1 ⟨rZ, kZ, rfl, ho, gg⟩
  have RZ := Lib.hid (ho.mono (Nat.zero_le _))
  clear ho
  replace E := Lib.hid (E.out.trans gg)
  replace HQ := Lib.hid (HQ.out.ext gg)
  replace HL := Lib.hid (HL.out.ext gg)
  replace C0 := Lib.hid (gg.cell (p := ⟨O, 0, none⟩) C0.out)
  replace C1 := Lib.hid (gg.cell (p := ⟨O, 1, none⟩) C1.out)
  clear gg
  rw [← HC.out]
  have x00 := C0.out
  have x01 := C1.out
  go_wp2_with (fail)
  clear x00 x01
  refine Calls.mono (s_SphereThrough_any p a d cap qs al n cl vs M v1 HM.out (by omega) (by omega) HRL.out HQ.out HL.out) ?_
  rintro e v2 ⟨rT, kT, rfl, ho, gg⟩
  have RT := Lib.hid (ho.mono (Nat.zero_le _))
  clear ho
  replace E := Lib.hid (E.out.trans gg)
  replace HQ := Lib.hid (HQ.out.ext gg)
  replace HL := Lib.hid (HL.out.ext gg)
  replace RZ := Lib.hid (RZ.out.ext gg)
  replace C0 := Lib.hid (gg.cell (p := ⟨O, 0, none⟩) C0.out)
  replace C1 := Lib.hid (gg.cell (p := ⟨O, 1, none⟩) C1.out)
  clear gg
  rw [← HC.out]
  have hcc : (C != C) = false := by simp
  have x00 := C0.out
  have x01 := C1.out
  go_wp2_with (fail)
  clear x00 x01
  have H := l_like rZ rT M M kZ kT _ _ v2 (by omega) (by omega) RZ.out.rd RT.out.rd
  rw [eqB_self] at H
  refine Calls.mono H ?_
  clear H
  rintro e v3 ⟨rfl, gg⟩
  replace E := Lib.hid (E.out.trans gg)
  replace HQ := Lib.hid (HQ.out.ext gg)
  replace HL := Lib.hid (HL.out.ext gg)
  replace RZ := Lib.hid (RZ.out.ext gg)
  replace RT := Lib.hid (RT.out.ext gg)
  replace C0 := Lib.hid (gg.cell (p := ⟨O, 0, none⟩) C0.out)
  replace C1 := Lib.hid (gg.cell (p := ⟨O, 1, none⟩) C1.out)
  clear gg
  clear RT hcc
  have x00 := C0.out
  have x01 := C1.out
  go_wp2_with (fail)
  clear x00 x01
  refine Calls.mono (c_WedgeOfPoints_any p a d cap qs al n cl vs M2 v3 HM2.out (by omega) (by omega) HRL.out HQ.out HL.out) ?_
  rintro e v4 ⟨rA, kA, rfl, ho, gg⟩
  have RA := Lib.hid (ho.mono (Nat.zero_le _))
  clear ho
  replace E := Lib.hid (E.out.trans gg)
  replace HQ := Lib.hid (HQ.out.ext gg)
  replace HL := Lib.hid (HL.out.ext gg)
  replace RZ := Lib.hid (RZ.out.ext gg)
  replace C0 := Lib.hid (gg.cell (p := ⟨O, 0, none⟩) C0.out)
  replace C1 := Lib.hid (gg.cell (p := ⟨O, 1, none⟩) C1.out)
  clear gg
  rw [← HD.out]
  have x00 := C0.out
  have x01 := C1.out
  go_wp2_with (fail)
  clear x00 x01
  refine Calls.mono (s_WedgeOfPoints_any p a d cap qs al n cl vs M2 v4 HM2.out (by omega) (by omega) HRL.out HQ.out HL.out) ?_
  rintro e v5 ⟨rB, kB, rfl, ho, gg⟩
  have RB := Lib.hid (ho.mono (Nat.zero_le _))
  clear ho
  replace E := Lib.hid (E.out.trans gg)
  replace HQ := Lib.hid (HQ.out.ext gg)
  replace HL := Lib.hid (HL.out.ext gg)
  replace RZ := Lib.hid (RZ.out.ext gg)
  replace RA := Lib.hid (RA.out.ext gg)
  replace C0 := Lib.hid (gg.cell (p := ⟨O, 0, none⟩) C0.out)
  replace C1 := Lib.hid (gg.cell (p := ⟨O, 1, none⟩) C1.out)
  clear gg
  rw [← HD.out]
  have hcc : (D != D) = false := by simp
  have x00 := C0.out
  have x01 := C1.out
  go_wp2_with (fail)
  clear x00 x01
  have H := l_like rA rB M2 M2 kA kB _ _ v5 (by omega) (by omega) RA.out.rd RB.out.rd
  rw [eqB_self] at H
  refine Calls.mono H ?_
  clear H
  rintro e v6 ⟨rfl, gg⟩
  replace E := Lib.hid (E.out.trans gg)
  replace HQ := Lib.hid (HQ.out.ext gg)
  replace HL := Lib.hid (HL.out.ext gg)
  replace RZ := Lib.hid (RZ.out.ext gg)
  replace RA := Lib.hid (RA.out.ext gg)
  replace RB := Lib.hid (RB.out.ext gg)
  replace C0 := Lib.hid (gg.cell (p := ⟨O, 0, none⟩) C0.out)
  replace C1 := Lib.hid (gg.cell (p := ⟨O, 1, none⟩) C1.out)
  clear gg
  clear RB hcc
  by_cases hD : D ≠ 0
  · have hDb : (D != 0) = true := by simp [hD]
    have hCD : C = D := by rw [HC.out, sp_code (by rw [← HD.out]; exact hD), HD.out]
    have hM0 : M = 0 := by
      rw [HM.out]; unfold spL
      rw [if_neg (by rw [← HC.out, hCD]; exact hD)]; rfl
    subst hM0
    subst hCD
    have hcb : (C == C) = true := by simp
    clear hD
    go_wp2_with (fail)
    go_ret
    exact ⟨rfl, E.out⟩
  replace hD : D = 0 := by simpa using hD
  have hDS : code18L p qs vs = 0 := by rw [← HD.out]; exact hD
  subst hD
  obtain ⟨hD0, hn16⟩ := code18L_zero hDS
  obtain ⟨hs, h4, ha⟩ := code18_zero hD0
  obtain ⟨hpr, hd1, _, hqb⟩ := space_of hs
  have hpb := prime_bd hpr
  have HPR := Lib.hid hpr
  have HSP := Lib.hid hs
  have HQB := Lib.hid hqb
  have HDL := Lib.hid HQ.out.1
  have h4L := h4
  rw [HDL.out] at h4 hd1
  have HGV := Lib.hid (show ∀ i, i < n → Good p d (nthR vs i) from fun i hi => by
    have := rows_good ha i (by rw [HVN.out]; exact hi)
    rw [HDL.out] at this; exact this)
  have HWE := Lib.hid (show weL p qs vs = wpL p qs vs n by unfold weL; rw [if_pos hDS, HVN.out])
  obtain ⟨F, hF⟩ : ∃ F, F = zeroB (wpL p qs vs n) := ⟨_, rfl⟩
  have HF := Lib.hid hF
  rw [HWE.out] at RA
  have HFR := Lib.hid (show decide (rankL p (d + 2) (pointsL p qs vs n) < n) = F by
    have h := thru_free (vs := vs) hpr h4L
    rw [HVN.out, HDL.out, ← hF] at h
    exact h)
  have HD18 := Lib.hid hDS
  clear hDS hD0 hs ha hpr hqb hF
  have x00 := C0.out
  have x01 := C1.out
  go_wp2_with (fail)
  clear x00 x01
  refine Calls.mono (c_ExtendSpace_ok p a d cap qs v6 HSP.out h4L HQ.out) ?_
  rintro e v7 ⟨gE, rE, rfl, ho, gg⟩
  have RE := Lib.hid (ho.mono (Nat.zero_le _))
  clear ho
  replace E := Lib.hid (E.out.trans gg)
  replace HQ := Lib.hid (HQ.out.ext gg)
  replace HL := Lib.hid (HL.out.ext gg)
  replace RZ := Lib.hid (RZ.out.ext gg)
  replace RA := Lib.hid (RA.out.ext gg)
  replace C0 := Lib.hid (gg.cell (p := ⟨O, 0, none⟩) C0.out)
  replace C1 := Lib.hid (gg.cell (p := ⟨O, 1, none⟩) C1.out)
  clear gg
  have y00 := (ext_alloc v7 (.cells #[.int .i64 p, .slice (some ⟨gE, 0, none⟩) (d + 2) rE] 26)).cell (p := ⟨O, 0, none⟩) C0.out
  have y01 := (ext_alloc v7 (.cells #[.int .i64 p, .slice (some ⟨gE, 0, none⟩) (d + 2) rE] 26)).cell (p := ⟨O, 1, none⟩) C1.out
  go_wp2_with (fail)
  clear y00 y01
  obtain ⟨O2, hO2⟩ : ∃ O2, O2 = v7.heap.size := ⟨_, rfl⟩
  obtain ⟨W3, hW3⟩ : ∃ W2, W2 = v7.alloc (.cells #[.int .i64 p, .slice (some ⟨gE, 0, none⟩) (d + 2) rE] 26) := ⟨_, rfl⟩
  have D0 := Lib.hid (show W3.cell? ⟨O2, 0, none⟩ = some (.int .i64 p) by rw [hW3, hO2]; simp)
  have D1 := Lib.hid (show W3.cell? ⟨O2, 1, none⟩ = some (.slice (some ⟨gE, 0, none⟩) (d + 2) rE) by rw [hW3, hO2]; simp)
  have gg : Ext v7 W3 := by rw [hW3]; exact ext_alloc _ _
  rw [← hO2, ← hW3]
  clear hO2 hW3
  replace E := Lib.hid (E.out.trans gg)
  replace HQ := Lib.hid (HQ.out.ext gg)
  replace HL := Lib.hid (HL.out.ext gg)
  replace RZ := Lib.hid (RZ.out.ext gg)
  replace RA := Lib.hid (RA.out.ext gg)
  replace RE := Lib.hid (RE.out.ext gg)
  replace C0 := Lib.hid (gg.cell (p := ⟨O, 0, none⟩) C0.out)
  replace C1 := Lib.hid (gg.cell (p := ⟨O, 1, none⟩) C1.out)
  clear gg
  have x00 := C0.out
  have x01 := C1.out
  have x10 := D0.out
  have x11 := D1.out
  go_wp2_with (fail)
  clear x00 x01 x10 x11
  go_loopw [15, 16] (fun v i wr => ∃ (k g rc : Nat), k ≤ n ∧ i = .int .i64 k ∧ v = .slice (some ⟨g, 0, none⟩) k rc ∧ Hid (OwnW W3.heap.size wr (some ⟨g, 0, none⟩) k rc (pointsL p qs vs k)) ∧ Hid (Ext W3 wr)) (fun _ i _ => n - (intOf i).toNat)
  case atStart => exact ⟨0, _, _, Nat.zero_le _, rfl, rfl, Lib.hid (OwnW.start _ _ _), Lib.hid (ext_alloc _ _)⟩
  case round =>
    rename World => wr
    obtain ⟨k, gU, kU, hk, rfl, rfl, OU, XU⟩ := hrel
    by_cases hkn : k < n
    · skip
      replace E := Lib.hid (E.out.trans XU.out)
      replace HQ := Lib.hid (HQ.out.ext XU.out)
      replace HL := Lib.hid (HL.out.ext XU.out)
      replace RZ := Lib.hid (RZ.out.ext XU.out)
      replace RA := Lib.hid (RA.out.ext XU.out)
      replace RE := Lib.hid (RE.out.ext XU.out)
      replace C0 := Lib.hid (XU.out.cell (p := ⟨O, 0, none⟩) C0.out)
      replace C1 := Lib.hid (XU.out.cell (p := ⟨O, 1, none⟩) C1.out)
      replace D0 := Lib.hid (XU.out.cell (p := ⟨O2, 0, none⟩) D0.out)
      replace D1 := Lib.hid (XU.out.cell (p := ⟨O2, 1, none⟩) D1.out)
      obtain ⟨bl, ol, ak, ck, rfl, hlc, hlr⟩ := HL.out.2 k hkn
      rw [(HGV.out k hkn).1] at hlc hlr
      have HLC := Lib.hid hlc
      have HLR := Lib.hid hlr
      have lc := hlc
      have HGK := Lib.hid (HGV.out k hkn)
      have XR := Lib.hid (Ext.refl wr)
      clear hlc hlr
      have x00 := C0.out
      have x01 := C1.out
      have x10 := D0.out
      have x11 := D1.out
      go_wp2_with (fail)
      clear x00 x01 x10 x11
      clear lc
      replace XR := Lib.hid (XR.out.trans (ext_drew wr))
      replace E := Lib.hid (E.out.trans (ext_drew wr))
      replace HQ := Lib.hid (HQ.out.ext (ext_drew wr))
      replace HL := Lib.hid (HL.out.ext (ext_drew wr))
      replace RZ := Lib.hid (RZ.out.ext (ext_drew wr))
      replace RA := Lib.hid (RA.out.ext (ext_drew wr))
      replace RE := Lib.hid (RE.out.ext (ext_drew wr))
      replace HLR := Lib.hid (HLR.out.ext (ext_drew wr))
      replace C0 := Lib.hid ((ext_drew wr).cell (p := ⟨O, 0, none⟩) C0.out)
      replace C1 := Lib.hid ((ext_drew wr).cell (p := ⟨O, 1, none⟩) C1.out)
      replace D0 := Lib.hid ((ext_drew wr).cell (p := ⟨O2, 0, none⟩) D0.out)
      replace D1 := Lib.hid ((ext_drew wr).cell (p := ⟨O2, 1, none⟩) D1.out)
      refine wp_region_lex [(5, .tupI wr.heap.size (d + 2) (pointL p qs (nthR vs k)))] (by kernel_rfl) (by kernel_rfl) ?_
      (refine LexW.pure (v := ?_) rfl rfl (fun w1 he => ?_) ?_; rotate_left; ( have x00 := (he.cell (p := ⟨O, 0, none⟩) C0.out); have x01 := (he.cell (p := ⟨O, 1, none⟩) C1.out); have x10 := (he.cell (p := ⟨O2, 0, none⟩) D0.out); have x11 := (he.cell (p := ⟨O2, 1, none⟩) D1.out); have lc := (he.cell ((ext_drew wr).cell HLC.out)); go_simp; rfl); simp only [Act.put, List.setIfInBounds_toArray, List.set_cons_zero, List.set_cons_succ])
      (refine LexW.pure (v := ?_) rfl rfl (fun w1 he => ?_) ?_; rotate_left; ( have x00 := (he.cell (p := ⟨O, 0, none⟩) C0.out); have x01 := (he.cell (p := ⟨O, 1, none⟩) C1.out); have x10 := (he.cell (p := ⟨O2, 0, none⟩) D0.out); have x11 := (he.cell (p := ⟨O2, 1, none⟩) D1.out); have lc := (he.cell ((ext_drew wr).cell HLC.out)); go_simp; rfl); simp only [Act.put, List.setIfInBounds_toArray, List.set_cons_zero, List.set_cons_succ])
      (refine LexW.pure (v := ?_) rfl rfl (fun w1 he => ?_) ?_; rotate_left; ( have x00 := (he.cell (p := ⟨O, 0, none⟩) C0.out); have x01 := (he.cell (p := ⟨O, 1, none⟩) C1.out); have x10 := (he.cell (p := ⟨O2, 0, none⟩) D0.out); have x11 := (he.cell (p := ⟨O2, 1, none⟩) D1.out); have lc := (he.cell ((ext_drew wr).cell HLC.out)); go_simp; rfl); simp only [Act.put, List.setIfInBounds_toArray, List.set_cons_zero, List.set_cons_succ])
      (refine LexW.pure (v := ?_) rfl rfl (fun w1 he => ?_) ?_; rotate_left; ( have x00 := (he.cell (p := ⟨O, 0, none⟩) C0.out); have x01 := (he.cell (p := ⟨O, 1, none⟩) C1.out); have x10 := (he.cell (p := ⟨O2, 0, none⟩) D0.out); have x11 := (he.cell (p := ⟨O2, 1, none⟩) D1.out); have lc := (he.cell ((ext_drew wr).cell HLC.out)); go_simp; rfl); simp only [Act.put, List.setIfInBounds_toArray, List.set_cons_zero, List.set_cons_succ])
      (refine LexW.pure (v := ?_) rfl rfl (fun w1 he => ?_) ?_; rotate_left; ( have x00 := (he.cell (p := ⟨O, 0, none⟩) C0.out); have x01 := (he.cell (p := ⟨O, 1, none⟩) C1.out); have x10 := (he.cell (p := ⟨O2, 0, none⟩) D0.out); have x11 := (he.cell (p := ⟨O2, 1, none⟩) D1.out); have lc := (he.cell ((ext_drew wr).cell HLC.out)); go_simp; rfl); simp only [Act.put, List.setIfInBounds_toArray, List.set_cons_zero, List.set_cons_succ])
      (refine LexW.callR (f := ?_) (args := ?_) rfl rfl (fun w1 => ?_) (fun w1 he hdep => ?_) (fun v hv => ?_); rotate_left 2; (go_simp; refine ⟨?_, ?_⟩ <;> rfl); ( refine (c_PointVector_ok p a d cap qs ak ck (nthR vs k) w1 HSP.out h4L (HQ.out.ext he) (HLR.out.ext he) HGK.out).mono ?_; rintro e w2 ⟨g, rc, rfl, ho, g2⟩; exact ⟨_, rfl, g2, g, rc, rfl, ho.mono (show wr.heap.size ≤ _ from he.size)⟩); simp only [Act.put, List.setIfInBounds_toArray, List.set_cons_zero, List.set_cons_succ])
      obtain ⟨_, g110, c110, rfl, _⟩ := hv
      (refine LexW.pure (v := ?_) rfl rfl (fun w1 he => ?_) ?_; rotate_left; ( have x00 := (he.cell (p := ⟨O, 0, none⟩) C0.out); have x01 := (he.cell (p := ⟨O, 1, none⟩) C1.out); have x10 := (he.cell (p := ⟨O2, 0, none⟩) D0.out); have x11 := (he.cell (p := ⟨O2, 1, none⟩) D1.out); have lc := (he.cell ((ext_drew wr).cell HLC.out)); go_simp; rfl); simp only [Act.put, List.setIfInBounds_toArray, List.set_cons_zero, List.set_cons_succ])
      (refine LexW.pure (v := ?_) rfl rfl (fun w1 he => ?_) ?_; rotate_left; ( have x00 := (he.cell (p := ⟨O, 0, none⟩) C0.out); have x01 := (he.cell (p := ⟨O, 1, none⟩) C1.out); have x10 := (he.cell (p := ⟨O2, 0, none⟩) D0.out); have x11 := (he.cell (p := ⟨O2, 1, none⟩) D1.out); have lc := (he.cell ((ext_drew wr).cell HLC.out)); go_simp; rfl); simp only [Act.put, List.setIfInBounds_toArray, List.set_cons_zero, List.set_cons_succ])
      (refine LexW.pure (v := ?_) rfl rfl (fun w1 he => ?_) ?_; rotate_left; ( have x00 := (he.cell (p := ⟨O, 0, none⟩) C0.out); have x01 := (he.cell (p := ⟨O, 1, none⟩) C1.out); have x10 := (he.cell (p := ⟨O2, 0, none⟩) D0.out); have x11 := (he.cell (p := ⟨O2, 1, none⟩) D1.out); have lc := (he.cell ((ext_drew wr).cell HLC.out)); go_simp; rfl); simp only [Act.put, List.setIfInBounds_toArray, List.set_cons_zero, List.set_cons_succ])
      (refine LexW.pure (v := ?_) rfl rfl (fun w1 he => ?_) ?_; rotate_left; ( have x00 := (he.cell (p := ⟨O, 0, none⟩) C0.out); have x01 := (he.cell (p := ⟨O, 1, none⟩) C1.out); have x10 := (he.cell (p := ⟨O2, 0, none⟩) D0.out); have x11 := (he.cell (p := ⟨O2, 1, none⟩) D1.out); have lc := (he.cell ((ext_drew wr).cell HLC.out)); go_simp; rfl); simp only [Act.put, List.setIfInBounds_toArray, List.set_cons_zero, List.set_cons_succ])
      (refine LexW.pure (v := ?_) rfl rfl (fun w1 he => ?_) ?_; rotate_left; ( have x00 := (he.cell (p := ⟨O, 0, none⟩) C0.out); have x01 := (he.cell (p := ⟨O, 1, none⟩) C1.out); have x10 := (he.cell (p := ⟨O2, 0, none⟩) D0.out); have x11 := (he.cell (p := ⟨O2, 1, none⟩) D1.out); have lc := (he.cell ((ext_drew wr).cell HLC.out)); go_simp; rfl); simp only [Act.put, List.setIfInBounds_toArray, List.set_cons_zero, List.set_cons_succ])
      refine LexW.nil (fun w3 he hkn => ?_)
      obtain ⟨_, _, q110, r110⟩ : (SPred.tupI wr.heap.size (d + 2) (pointL p qs (nthR vs k))).holds (.tuple #[.slice (some ⟨g110, 0, none⟩) (d + 2) c110, .int .i64 0]) w3 := hkn (5, _) (by simp)
      cases q110
      have R110 := Lib.hid r110
      have HE := Lib.hid he
      clear he hkn r110
      rename World => v8
      replace XR := Lib.hid (XR.out.trans HE.out)
      replace E := Lib.hid (E.out.trans HE.out)
      replace HQ := Lib.hid (HQ.out.ext HE.out)
      replace HL := Lib.hid (HL.out.ext HE.out)
      replace RZ := Lib.hid (RZ.out.ext HE.out)
      replace RA := Lib.hid (RA.out.ext HE.out)
      replace RE := Lib.hid (RE.out.ext HE.out)
      replace HLR := Lib.hid (HLR.out.ext HE.out)
      replace C0 := Lib.hid (HE.out.cell (p := ⟨O, 0, none⟩) C0.out)
      replace C1 := Lib.hid (HE.out.cell (p := ⟨O, 1, none⟩) C1.out)
      replace D0 := Lib.hid (HE.out.cell (p := ⟨O2, 0, none⟩) D0.out)
      replace D1 := Lib.hid (HE.out.cell (p := ⟨O2, 1, none⟩) D1.out)
      clear HE
      have x00 := C0.out
      have x01 := C1.out
      have x10 := D0.out
      have x11 := D1.out
      go_wp2_with (at_builtin; refine wpList_pushRW (w0 := wr) rfl (.tmp 115) (.tmp 117) rfl rfl rfl OU.out (XR.out.trans (ext_alloc _ _)) (R110.out.ext (ext_alloc _ _)) ?hc (by omega) XU.out.size ?hk)
      clear x00 x01 x10 x11
      case hc => exact cell_new _ _ rfl _ _
      case hk =>
        intro g' cap' w3 ho3 he3
        have HO3 := Lib.hid ho3
        have HE3 := Lib.hid (he3 W3 (Nat.le_refl _) ((XU.out.trans XR.out).alloc _))
        clear ho3 he3
        go_wp2_with (fail)
        go_roundw
        case rel => exact ⟨k + 1, g', cap', by omega, by go_num, rfl, Lib.hid (by rw [pointsL_succ]; exact .inr HO3.out), HE3⟩
        case measure => simp [intOf]; omega
    · obtain rfl : k = n := by omega
      replace E := Lib.hid (E.out.trans XU.out)
      replace HQ := Lib.hid (HQ.out.ext XU.out)
      replace HL := Lib.hid (HL.out.ext XU.out)
      replace RZ := Lib.hid (RZ.out.ext XU.out)
      replace RA := Lib.hid (RA.out.ext XU.out)
      replace RE := Lib.hid (RE.out.ext XU.out)
      replace C0 := Lib.hid (XU.out.cell (p := ⟨O, 0, none⟩) C0.out)
      replace C1 := Lib.hid (XU.out.cell (p := ⟨O, 1, none⟩) C1.out)
      replace D0 := Lib.hid (XU.out.cell (p := ⟨O2, 0, none⟩) D0.out)
      replace D1 := Lib.hid (XU.out.cell (p := ⟨O2, 1, none⟩) D1.out)
      have HP := Lib.hid OU.out.rd
      clear OU XU
      have HPG := Lib.hid (show ∀ i, i < k → (nthR (pointsL p qs vs k) i).length ≤ 4194304 from fun i hi => by
        have := (pointsL_good (p := p) (qs := qs) (vs := vs) (k := k) (d := d) (by omega) HDL.out i (by rw [pointsL_len]; exact hi)).1
        omega)
      have HCV := Lib.hid (show codeVR p (extL p qs) (pointsL p qs vs k) = 0 from codeVR_00 (extL_space HSP.out h4L) (by rw [extL_len, HDL.out]; exact pointsL_good (by omega) HDL.out) (by rw [pointsL_len]; omega))
      have x00 := C0.out
      have x01 := C1.out
      have x10 := D0.out
      have x11 := D1.out
      go_wp2_with (fail)
      clear x00 x01 x10 x11
      refine Calls.mono (c_AreDependent_ok p (some ⟨gE, 0, none⟩) (d + 2) rE (extL p qs) (some ⟨gU, 0, none⟩) k kU (pointsL p qs vs k) wr (by omega) (by omega) HPG.out RE.out.rd HP.out HCV.out) ?_
      rintro e v9 ⟨rfl, gg⟩
      rw [HFR.out]
      clear HPG HCV
      replace E := Lib.hid (E.out.trans gg)
      replace HQ := Lib.hid (HQ.out.ext gg)
      replace HL := Lib.hid (HL.out.ext gg)
      replace RZ := Lib.hid (RZ.out.ext gg)
      replace RA := Lib.hid (RA.out.ext gg)
      replace RE := Lib.hid (RE.out.ext gg)
      replace HP := Lib.hid (HP.out.ext gg)
      replace C0 := Lib.hid (gg.cell (p := ⟨O, 0, none⟩) C0.out)
      replace C1 := Lib.hid (gg.cell (p := ⟨O, 1, none⟩) C1.out)
      replace D0 := Lib.hid (gg.cell (p := ⟨O2, 0, none⟩) D0.out)
      replace D1 := Lib.hid (gg.cell (p := ⟨O2, 1, none⟩) D1.out)
      clear gg
      clear HP
      have x00 := C0.out
      have x01 := C1.out
      have x10 := D0.out
      have x11 := D1.out
      go_wp2_with (fail)
      clear x00 x01 x10 x11
      refine Calls.mono (l_zero9 rA M2 kA (wpL p qs vs k) v9 (by omega) RA.out.rd) ?_
      rintro e v10 ⟨rfl, gg⟩
      rw [← HF.out]
      replace E := Lib.hid (E.out.trans gg)
      replace HQ := Lib.hid (HQ.out.ext gg)
      replace HL := Lib.hid (HL.out.ext gg)
      replace RZ := Lib.hid (RZ.out.ext gg)
      replace RA := Lib.hid (RA.out.ext gg)
      replace RE := Lib.hid (RE.out.ext gg)
      replace C0 := Lib.hid (gg.cell (p := ⟨O, 0, none⟩) C0.out)
      replace C1 := Lib.hid (gg.cell (p := ⟨O, 1, none⟩) C1.out)
      replace D0 := Lib.hid (gg.cell (p := ⟨O2, 0, none⟩) D0.out)
      replace D1 := Lib.hid (gg.cell (p := ⟨O2, 1, none⟩) D1.out)
      clear gg
      have hff : (F != F) = false := by simp
      by_cases hC : C ≠ 0
      · have hCb : (C != 0) = true := by simp [hC]
        obtain rfl : C = 5 := by rw [HC.out]; exact sp_five HD18.out (by rw [← HC.out]; exact hC)
        clear hC
        go_wp2_with (fail)
        go_ret
        exact ⟨rfl, E.out⟩
      replace hC : C = 0 := by simpa using hC
      have hCS : codeSp p qs vs = 0 := by rw [← HC.out]; exact hC
      subst hC
      obtain ⟨_, hone⟩ := sp_zero hCS
      have HON := Lib.hid hone
      have HSL := Lib.hid (show spL p qs vs = sphL p qs vs by unfold spL; rw [if_pos hCS])
      have HGX := Lib.hid (show Good p (d + 2) (sphL p qs vs) by rw [← HDL.out]; exact sphL_good HPR.out hone)
      have hM3 : M = d + 2 := by rw [HM.out, HSL.out]; exact HGX.out.1
      subst hM3
      rw [HSL.out] at RZ
      have HPX := Lib.hid (show ∀ i, i < k → pexZ p qs (sphL p qs vs) (nthR vs i) = 0 from fun i hi => thru_on HPR.out hone (by rw [HVN.out]; exact hi))
      clear hCS hone
      have x00 := C0.out
      have x01 := C1.out
      have x10 := D0.out
      have x11 := D1.out
      go_wp2_with (fail)
      clear x00 x01 x10 x11
      go_loopw [21] (fun i wr => ∃ (j : Nat), j ≤ k ∧ i = .int .i64 j ∧ Hid (Ext v10 wr)) (fun i _ => k - (intOf i).toNat)
      case atStart => exact ⟨0, Nat.zero_le _, rfl, Lib.hid (Ext.refl _)⟩
      case round =>
        rename World => wr2
        obtain ⟨j, hj, rfl, XV⟩ := hrel
        by_cases hjk : j < k
        · skip
          replace E := Lib.hid (E.out.trans XV.out)
          replace HQ := Lib.hid (HQ.out.ext XV.out)
          replace HL := Lib.hid (HL.out.ext XV.out)
          replace RZ := Lib.hid (RZ.out.ext XV.out)
          replace RA := Lib.hid (RA.out.ext XV.out)
          replace RE := Lib.hid (RE.out.ext XV.out)
          replace C0 := Lib.hid (XV.out.cell (p := ⟨O, 0, none⟩) C0.out)
          replace C1 := Lib.hid (XV.out.cell (p := ⟨O, 1, none⟩) C1.out)
          replace D0 := Lib.hid (XV.out.cell (p := ⟨O2, 0, none⟩) D0.out)
          replace D1 := Lib.hid (XV.out.cell (p := ⟨O2, 1, none⟩) D1.out)
          obtain ⟨bl, ol, aj, cj, rfl, hlc, hlr⟩ := HL.out.2 j hjk
          rw [(HGV.out j hjk).1] at hlc hlr
          have HLC := Lib.hid hlc
          have HLR := Lib.hid hlr
          have lc := hlc
          have HGK := Lib.hid (HGV.out j hjk)
          have HPJ := Lib.hid (HPX.out j hjk)
          have XR := Lib.hid (Ext.refl wr2)
          clear hlc hlr
          have x00 := C0.out
          have x01 := C1.out
          have x10 := D0.out
          have x11 := D1.out
          go_wp2_with (fail)
          clear x00 x01 x10 x11
          clear lc
          replace XR := Lib.hid (XR.out.trans (ext_drew wr2))
          replace E := Lib.hid (E.out.trans (ext_drew wr2))
          replace HQ := Lib.hid (HQ.out.ext (ext_drew wr2))
          replace HL := Lib.hid (HL.out.ext (ext_drew wr2))
          replace RZ := Lib.hid (RZ.out.ext (ext_drew wr2))
          replace RA := Lib.hid (RA.out.ext (ext_drew wr2))
          replace RE := Lib.hid (RE.out.ext (ext_drew wr2))
          replace HLR := Lib.hid (HLR.out.ext (ext_drew wr2))
          replace C0 := Lib.hid ((ext_drew wr2).cell (p := ⟨O, 0, none⟩) C0.out)
          replace C1 := Lib.hid ((ext_drew wr2).cell (p := ⟨O, 1, none⟩) C1.out)
          replace D0 := Lib.hid ((ext_drew wr2).cell (p := ⟨O2, 0, none⟩) D0.out)
          replace D1 := Lib.hid ((ext_drew wr2).cell (p := ⟨O2, 1, none⟩) D1.out)
          refine wp_region_lex [(6, .val (.tuple #[.bool true, .int .i64 0]))] (by kernel_rfl) (by kernel_rfl) ?_
          (refine LexW.pure (v := ?_) rfl rfl (fun w1 he => ?_) ?_; rotate_left; ( have x00 := (he.cell (p := ⟨O, 0, none⟩) C0.out); have x01 := (he.cell (p := ⟨O, 1, none⟩) C1.out); have x10 := (he.cell (p := ⟨O2, 0, none⟩) D0.out); have x11 := (he.cell (p := ⟨O2, 1, none⟩) D1.out); have lc := (he.cell ((ext_drew wr2).cell HLC.out)); go_simp; rfl); simp only [Act.put, List.setIfInBounds_toArray, List.set_cons_zero, List.set_cons_succ])
          (refine LexW.pure (v := ?_) rfl rfl (fun w1 he => ?_) ?_; rotate_left; ( have x00 := (he.cell (p := ⟨O, 0, none⟩) C0.out); have x01 := (he.cell (p := ⟨O, 1, none⟩) C1.out); have x10 := (he.cell (p := ⟨O2, 0, none⟩) D0.out); have x11 := (he.cell (p := ⟨O2, 1, none⟩) D1.out); have lc := (he.cell ((ext_drew wr2).cell HLC.out)); go_simp; rfl); simp only [Act.put, List.setIfInBounds_toArray, List.set_cons_zero, List.set_cons_succ])
          (refine LexW.pure (v := ?_) rfl rfl (fun w1 he => ?_) ?_; rotate_left; ( have x00 := (he.cell (p := ⟨O, 0, none⟩) C0.out); have x01 := (he.cell (p := ⟨O, 1, none⟩) C1.out); have x10 := (he.cell (p := ⟨O2, 0, none⟩) D0.out); have x11 := (he.cell (p := ⟨O2, 1, none⟩) D1.out); have lc := (he.cell ((ext_drew wr2).cell HLC.out)); go_simp; rfl); simp only [Act.put, List.setIfInBounds_toArray, List.set_cons_zero, List.set_cons_succ])
          (refine LexW.pure (v := ?_) rfl rfl (fun w1 he => ?_) ?_; rotate_left; ( have x00 := (he.cell (p := ⟨O, 0, none⟩) C0.out); have x01 := (he.cell (p := ⟨O, 1, none⟩) C1.out); have x10 := (he.cell (p := ⟨O2, 0, none⟩) D0.out); have x11 := (he.cell (p := ⟨O2, 1, none⟩) D1.out); have lc := (he.cell ((ext_drew wr2).cell HLC.out)); go_simp; rfl); simp only [Act.put, List.setIfInBounds_toArray, List.set_cons_zero, List.set_cons_succ])
          (refine LexW.pure (v := ?_) rfl rfl (fun w1 he => ?_) ?_; rotate_left; ( have x00 := (he.cell (p := ⟨O, 0, none⟩) C0.out); have x01 := (he.cell (p := ⟨O, 1, none⟩) C1.out); have x10 := (he.cell (p := ⟨O2, 0, none⟩) D0.out); have x11 := (he.cell (p := ⟨O2, 1, none⟩) D1.out); have lc := (he.cell ((ext_drew wr2).cell HLC.out)); go_simp; rfl); simp only [Act.put, List.setIfInBounds_toArray, List.set_cons_zero, List.set_cons_succ])
          (refine LexW.pure (v := ?_) rfl rfl (fun w1 he => ?_) ?_; rotate_left; ( have x00 := (he.cell (p := ⟨O, 0, none⟩) C0.out); have x01 := (he.cell (p := ⟨O, 1, none⟩) C1.out); have x10 := (he.cell (p := ⟨O2, 0, none⟩) D0.out); have x11 := (he.cell (p := ⟨O2, 1, none⟩) D1.out); have lc := (he.cell ((ext_drew wr2).cell HLC.out)); go_simp; rfl); simp only [Act.put, List.setIfInBounds_toArray, List.set_cons_zero, List.set_cons_succ])
          (refine LexW.call (f := ?_) (args := ?_) rfl rfl (fun w1 => ?_) (fun w1 he hdep => ?_) ?_; rotate_left 2; (go_simp; refine ⟨?_, ?_⟩ <;> rfl); ( have H := c_IsOnSphere_ok p a d cap qs rZ kZ (sphL p qs vs) aj cj (nthR vs j) w1 HSP.out h4L (HQ.out.ext he) (RZ.out.rd.ext he) HGX.out (HLR.out.ext he) HGK.out; rw [HPJ.out] at H; exact H); simp only [Act.put, List.setIfInBounds_toArray, List.set_cons_zero, List.set_cons_succ])
          (refine LexW.pure (v := ?_) rfl rfl (fun w1 he => ?_) ?_; rotate_left; ( have x00 := (he.cell (p := ⟨O, 0, none⟩) C0.out); have x01 := (he.cell (p := ⟨O, 1, none⟩) C1.out); have x10 := (he.cell (p := ⟨O2, 0, none⟩) D0.out); have x11 := (he.cell (p := ⟨O2, 1, none⟩) D1.out); have lc := (he.cell ((ext_drew wr2).cell HLC.out)); go_simp; rfl); simp only [Act.put, List.setIfInBounds_toArray, List.set_cons_zero, List.set_cons_succ])
          (refine LexW.pure (v := ?_) rfl rfl (fun w1 he => ?_) ?_; rotate_left; ( have x00 := (he.cell (p := ⟨O, 0, none⟩) C0.out); have x01 := (he.cell (p := ⟨O, 1, none⟩) C1.out); have x10 := (he.cell (p := ⟨O2, 0, none⟩) D0.out); have x11 := (he.cell (p := ⟨O2, 1, none⟩) D1.out); have lc := (he.cell ((ext_drew wr2).cell HLC.out)); go_simp; rfl); simp only [Act.put, List.setIfInBounds_toArray, List.set_cons_zero, List.set_cons_succ])
          (refine LexW.pure (v := ?_) rfl rfl (fun w1 he => ?_) ?_; rotate_left; ( have x00 := (he.cell (p := ⟨O, 0, none⟩) C0.out); have x01 := (he.cell (p := ⟨O, 1, none⟩) C1.out); have x10 := (he.cell (p := ⟨O2, 0, none⟩) D0.out); have x11 := (he.cell (p := ⟨O2, 1, none⟩) D1.out); have lc := (he.cell ((ext_drew wr2).cell HLC.out)); go_simp; rfl); simp only [Act.put, List.setIfInBounds_toArray, List.set_cons_zero, List.set_cons_succ])
          (refine LexW.pure (v := ?_) rfl rfl (fun w1 he => ?_) ?_; rotate_left; ( have x00 := (he.cell (p := ⟨O, 0, none⟩) C0.out); have x01 := (he.cell (p := ⟨O, 1, none⟩) C1.out); have x10 := (he.cell (p := ⟨O2, 0, none⟩) D0.out); have x11 := (he.cell (p := ⟨O2, 1, none⟩) D1.out); have lc := (he.cell ((ext_drew wr2).cell HLC.out)); go_simp; rfl); simp only [Act.put, List.setIfInBounds_toArray, List.set_cons_zero, List.set_cons_succ])
          (refine LexW.pure (v := ?_) rfl rfl (fun w1 he => ?_) ?_; rotate_left; ( have x00 := (he.cell (p := ⟨O, 0, none⟩) C0.out); have x01 := (he.cell (p := ⟨O, 1, none⟩) C1.out); have x10 := (he.cell (p := ⟨O2, 0, none⟩) D0.out); have x11 := (he.cell (p := ⟨O2, 1, none⟩) D1.out); have lc := (he.cell ((ext_drew wr2).cell HLC.out)); go_simp; rfl); simp only [Act.put, List.setIfInBounds_toArray, List.set_cons_zero, List.set_cons_succ])
          refine LexW.nil (fun w3 he hkn => ?_)
          have HE := Lib.hid he
          clear he hkn 
          rename World => v11
          replace XR := Lib.hid (XR.out.trans HE.out)
          replace E := Lib.hid (E.out.trans HE.out)
          replace HQ := Lib.hid (HQ.out.ext HE.out)
          replace HL := Lib.hid (HL.out.ext HE.out)
          replace RZ := Lib.hid (RZ.out.ext HE.out)
          replace RA := Lib.hid (RA.out.ext HE.out)
          replace RE := Lib.hid (RE.out.ext HE.out)
          replace HLR := Lib.hid (HLR.out.ext HE.out)
          replace C0 := Lib.hid (HE.out.cell (p := ⟨O, 0, none⟩) C0.out)
          replace C1 := Lib.hid (HE.out.cell (p := ⟨O, 1, none⟩) C1.out)
          replace D0 := Lib.hid (HE.out.cell (p := ⟨O2, 0, none⟩) D0.out)
          replace D1 := Lib.hid (HE.out.cell (p := ⟨O2, 1, none⟩) D1.out)
          clear HE
          go_wp2_with (fail)
          go_roundw
          case rel => exact ⟨j + 1, by omega, by go_num, Lib.hid (XV.out.trans XR.out)⟩
          case measure => simp [intOf]; omega
        · obtain rfl : j = k := by omega
          replace E := Lib.hid (E.out.trans XV.out)
          replace HQ := Lib.hid (HQ.out.ext XV.out)
          replace HL := Lib.hid (HL.out.ext XV.out)
          replace RZ := Lib.hid (RZ.out.ext XV.out)
          replace RA := Lib.hid (RA.out.ext XV.out)
          replace RE := Lib.hid (RE.out.ext XV.out)
          replace C0 := Lib.hid (XV.out.cell (p := ⟨O, 0, none⟩) C0.out)
          replace C1 := Lib.hid (XV.out.cell (p := ⟨O, 1, none⟩) C1.out)
          replace D0 := Lib.hid (XV.out.cell (p := ⟨O2, 0, none⟩) D0.out)
          replace D1 := Lib.hid (XV.out.cell (p := ⟨O2, 1, none⟩) D1.out)
          clear XV
          have x00 := C0.out
          have x01 := C1.out
          have x10 := D0.out
          have x11 := D1.out
          go_wp2_with (fail)
          clear x00 x01 x10 x11
          refine Calls.mono (c_IsRegular_ok p a d cap qs wr2 HSP.out (by omega) HQ.out) ?_
          rintro e v12 ⟨rfl, gg⟩
          obtain ⟨G, hG⟩ : ∃ G, G = regB qs := ⟨_, rfl⟩
          rw [← hG]
          have HG := Lib.hid hG
          clear hG
          replace E := Lib.hid (E.out.trans gg)
          replace HQ := Lib.hid (HQ.out.ext gg)
          replace HL := Lib.hid (HL.out.ext gg)
          replace RZ := Lib.hid (RZ.out.ext gg)
          replace RA := Lib.hid (RA.out.ext gg)
          replace RE := Lib.hid (RE.out.ext gg)
          replace C0 := Lib.hid (gg.cell (p := ⟨O, 0, none⟩) C0.out)
          replace C1 := Lib.hid (gg.cell (p := ⟨O, 1, none⟩) C1.out)
          replace D0 := Lib.hid (gg.cell (p := ⟨O2, 0, none⟩) D0.out)
          replace D1 := Lib.hid (gg.cell (p := ⟨O2, 1, none⟩) D1.out)
          clear gg
          cases G with
          | false =>
            go_wp2_with (fail)
            go_ret
            exact ⟨rfl, E.out⟩
          | true =>
            have x00 := C0.out
            have x01 := C1.out
            have x10 := D0.out
            have x11 := D1.out
            go_wp2_with (fail)
            clear x00 x01 x10 x11
            refine Calls.mono (l_zero9 rA M2 kA (wpL p qs vs j) v12 (by omega) RA.out.rd) ?_
            rintro e v13 ⟨rfl, gg⟩
            rw [← HF.out]
            replace E := Lib.hid (E.out.trans gg)
            replace HQ := Lib.hid (HQ.out.ext gg)
            replace HL := Lib.hid (HL.out.ext gg)
            replace RZ := Lib.hid (RZ.out.ext gg)
            replace RA := Lib.hid (RA.out.ext gg)
            replace RE := Lib.hid (RE.out.ext gg)
            replace C0 := Lib.hid (gg.cell (p := ⟨O, 0, none⟩) C0.out)
            replace C1 := Lib.hid (gg.cell (p := ⟨O, 1, none⟩) C1.out)
            replace D0 := Lib.hid (gg.cell (p := ⟨O2, 0, none⟩) D0.out)
            replace D1 := Lib.hid (gg.cell (p := ⟨O2, 1, none⟩) D1.out)
            clear gg
            cases F with
            | true =>
              go_wp2_with (fail)
              go_ret
              exact ⟨rfl, E.out⟩
            | false =>
              have HZF := Lib.hid (show zeroB (wpL p qs vs vs.length) = false by rw [HVN.out]; exact HF.out.symm)
              have hj6 : j ≤ 6 := by rw [← HVN.out]; exact thru_few HPR.out h4L HZF.out
              have hj0 : 0 < j := by rw [← HVN.out]; exact thru_pos HPR.out HON.out
              have HQP := Lib.hid (reg_pos HQB.out HG.out.symm)
              have HBO := Lib.hid (fun v => thru_both (v := v) HPR.out h4L HQP.out HON.out HZF.out)
              clear HFR HD18
              have x00 := C0.out
              have x01 := C1.out
              have x10 := D0.out
              have x11 := D1.out
              go_wp2_with (fail)
              clear x00 x01 x10 x11
              refine Calls.mono (l_roll ac nc cc 3026 v13 (by omega) (HB.out.ext E.out)) ?_
              rintro e v14 ⟨g, rfl, hg, hS, gg⟩
              obtain ⟨S, hSe⟩ : ∃ S : SrcP, S = ⟨g, ac, nc, cc⟩ := ⟨_, rfl⟩
              obtain rfl : g = S.g := by rw [hSe]
              rw [← hSe] at hS
              have HS := Lib.hid hS
              have E0 := Lib.hid gg
              have hgB : v13.heap.size ≤ S.g := hg
              have hgO : O ≠ S.g := by have := lt_of_cell C0.out; dsimp only at this; omega
              have hgO2 : O2 ≠ S.g := by have := lt_of_cell D0.out; dsimp only at this; omega
              clear hSe hS gg hg
              obtain ⟨B, hB⟩ : ∃ B, B = v14.heap.size := ⟨_, rfl⟩
              have HBE := Lib.hid hB
              have hSB : S.g < B := by rw [hB]; exact HS.out.lt
              clear hB
              have x00 := (E0.out.cell (p := ⟨O, 0, none⟩) C0.out)
              have x01 := (E0.out.cell (p := ⟨O, 1, none⟩) C1.out)
              have x10 := (E0.out.cell (p := ⟨O2, 0, none⟩) D0.out)
              have x11 := (E0.out.cell (p := ⟨O2, 1, none⟩) D1.out)
              go_wp2_with (fail)
              clear x00 x01 x10 x11
              obtain ⟨W0, hW0⟩ : ∃ W0, W0 = v14.alloc (.cells #[] 2) := ⟨_, rfl⟩
              have OV0 := Lib.hid (show OwnC B W0 (some ⟨v14.heap.size, 0, none⟩) 0 0 [] by rw [hW0, HBE.out]; exact own_empty _)
              have D0 := Lib.hid (show Drw S v14 W0 by rw [hW0]; exact Drw.of_ext (ext_alloc _ _))
              rw [← hW0]
              clear hW0
              go_loopw [27, 28] (fun v i wr => ∃ (k gv cv : Nat) (xv : List Int), k ≤ d ∧ i = .int .i64 k ∧ v = .slice (some ⟨gv, 0, none⟩) k cv ∧ Hid (OwnC B wr (some ⟨gv, 0, none⟩) k cv xv) ∧ Hid (isB p xv = true) ∧ Hid (Drw S v14 wr)) (fun _ i _ => d - (intOf i).toNat)
              case atStart => exact ⟨0, _, 0, [], Nat.zero_le _, rfl, rfl, OV0, Lib.hid (by simp [isB]), D0⟩
              case round =>
                rename World => wr
                clear OV0 D0
                obtain ⟨kk, gU, kU, xv, hk, rfl, rfl, OV, BV, HD1⟩ := hrel
                have x00 := HD1.out.cell (p := ⟨O, 0, none⟩) hgO (E0.out.cell C0.out)
                have x01 := HD1.out.cell (p := ⟨O, 1, none⟩) hgO (E0.out.cell C1.out)
                by_cases hkd : kk < d
                · have hkd' : (kk : Int) < (d : Int) := by omega
                  go_wp2_with (fail)
                  refine Calls.mono (l_below S p wr (HD1.out.src HS.out) (by omega)) ?_
                  rintro e w1 ⟨r9, rfl, hr, g1⟩
                  have hrb := hr.2 (by omega)
                  have OV1 := Lib.hid (g1.own OV.out hSB)
                  have HD2 := Lib.hid (HD1.out.trans g1)
                  have BV1 := Lib.hid (isB_push9 BV.out hrb.1 hrb.2)
                  clear g1 hr hrb x00 x01
                  go_wp2_with (at_builtin; refine wpList_push rfl (.tmp 190) (.tmp 195) rfl rfl rfl (v := r9) (OV1.out.ext (ext_alloc _ _)) ?hc ?hn ?hB ?hk)
                  case hc => simp
                  case hn => omega
                  case hB => have := (OV1.out.base_of _ rfl).1; have := (OV1.out.base_of _ rfl).2; simp; omega
                  case hk =>
                    intro g2 c2 w3 ho3 hg3 he3
                    have OV2 := Lib.hid ho3
                    have HD3 := Lib.hid ((HD2.out.alloc _).grown hg3 (fun k hk => by rw [← HBE.out]; exact OV1.out.blk k hk))
                    clear ho3 hg3 he3
                    go_wp2_with (fail)
                    go_roundw
                    case rel => exact ⟨kk + 1, g2, c2, _, by omega, by go_num, rfl, OV2, BV1, HD3⟩
                    case measure => simp [intOf]; omega
                · have hkd2 : kk = d := by omega
                  subst hkd2
                  have hkd' : ¬ (kk : Int) < (kk : Int) := by omega
                  go_wp2_with (fail)
                  clear x00 x01 hk
                  have RV := Lib.hid (OV.out.mono (show S.g + 1 ≤ B by omega))
                  have HGRV := Lib.hid (show Good p kk xv from isB_good9 OV.out.1 BV.out)
                  have gg := HD1.out
                  replace E0 := Lib.hid (gg.toExt E0.out hgB)
                  replace HS := Lib.hid (gg.src HS.out)
                  clear gg OV BV HD1
                  replace E := Lib.hid (E.out.trans E0.out)
                  replace HQ := Lib.hid (HQ.out.ext E0.out)
                  replace HL := Lib.hid (HL.out.ext E0.out)
                  replace RZ := Lib.hid (RZ.out.ext E0.out)
                  replace RA := Lib.hid (RA.out.ext E0.out)
                  replace RE := Lib.hid (RE.out.ext E0.out)
                  replace C0 := Lib.hid (E0.out.cell (p := ⟨O, 0, none⟩) C0.out)
                  replace C1 := Lib.hid (E0.out.cell (p := ⟨O, 1, none⟩) C1.out)
                  replace D0 := Lib.hid (E0.out.cell (p := ⟨O2, 0, none⟩) D0.out)
                  replace D1 := Lib.hid (E0.out.cell (p := ⟨O2, 1, none⟩) D1.out)
                  clear E0 HS hgB hgO hgO2
                  replace RV := Lib.hid (RV.out.mono (Nat.zero_le _))
                  obtain ⟨gl, hal⟩ : ∃ gl, al = some ⟨gl, 0, none⟩ := by
                    obtain ⟨_, vs', ho9, _⟩ := HBASE.out
                    rcases ho9.2 with ⟨h9, _⟩ | ⟨g9, c9, cur9, hv9, _⟩
                    · simp only [Value.slice.injEq] at h9; omega
                    · simp only [Value.slice.injEq] at hv9; exact ⟨g9, hv9.1⟩
                  subst hal
                  obtain ⟨v0, hv0⟩ : ∃ z, z = wr.drew := ⟨_, rfl⟩
                  have HV0 := Lib.hid hv0
                  have gg : Ext wr v0 := by rw [hv0]; exact ext_drew _
                  clear hv0
                  replace E := Lib.hid (E.out.trans gg)
                  replace HQ := Lib.hid (HQ.out.ext gg)
                  replace HL := Lib.hid (HL.out.ext gg)
                  replace RZ := Lib.hid (RZ.out.ext gg)
                  replace RA := Lib.hid (RA.out.ext gg)
                  replace RE := Lib.hid (RE.out.ext gg)
                  replace RV := Lib.hid (RV.out.ext gg)
                  replace C0 := Lib.hid (gg.cell (p := ⟨O, 0, none⟩) C0.out)
                  replace C1 := Lib.hid (gg.cell (p := ⟨O, 1, none⟩) C1.out)
                  replace D0 := Lib.hid (gg.cell (p := ⟨O2, 0, none⟩) D0.out)
                  replace D1 := Lib.hid (gg.cell (p := ⟨O2, 1, none⟩) D1.out)
                  clear gg
                  obtain ⟨J, hJ⟩ : ∃ J : World → Prop, J = (fun w' => w'.cell? ⟨O, 0, none⟩ = some (.int .i64 p) ∧ w'.cell? ⟨O, 1, none⟩ = some (.slice a kk cap)) := ⟨_, rfl⟩
                  have HJ : Hid (∀ w', Ext v0 w' → J w') := Lib.hid (fun w' hd => by rw [hJ]; exact ⟨hd.cell C0.out, hd.cell C1.out⟩)
                  have HJ2 : Hid (∀ w', J w' → w'.cell? ⟨O, 0, none⟩ = some (.int .i64 p) ∧ w'.cell? ⟨O, 1, none⟩ = some (.slice a kk cap)) := Lib.hid (fun w' h => by rw [hJ] at h; exact h)
                  clear hJ
                  obtain ⟨us, hus⟩ := list_cells HL.out
                  have HUS := Lib.hid (show CellsV v0 gl j vs us from hus)
                  have HC18 := Lib.hid (show code18L p qs (vs ++ [xv]) = 0 from code18L_snoc HSP.out h4L (fun i hi => by rw [HDL.out]; exact HGV.out i (by rw [← HVN.out]; exact hi)) (by rw [HDL.out]; exact HGRV.out) (by rw [HVN.out]; exact hj6))
                  have HR9 := Lib.hid (show ∀ i, i < j + 1 → (nthR (vs ++ [xv]) i).length ≤ 4194304 from fun i hi => by
                    by_cases h : i < j
                    · rw [nthR_snoc (by rw [HVN.out]; exact h)]; exact HRL.out i h
                    · obtain rfl : i = vs.length := by rw [HVN.out]; omega
                      rw [nthR_last, HGRV.out.1]; omega)
                  clear hus
                  refine wp_region_steps 13 J (by kernel_rfl) rfl ?_
                  rw [← HV0.out]
                  clear HV0
                  have X0 := Lib.hid (Ext.refl v0)
                  refine stepsI_float (i := 0) (v := ?_) (some 198) (by kernel_rfl) rfl rfl rfl (fun w' hI => ?_) ?_
                  rotate_left
                  · obtain ⟨e0, e1⟩ := HJ2.out w' hI; go_simp; rfl
                  simp only [Act.put, List.setIfInBounds_toArray, List.set_cons_zero, List.set_cons_succ]
                  refine stepsI_float (i := 2) (v := ?_) (some 200) (by kernel_rfl) rfl rfl rfl (fun w' hI => ?_) ?_
                  rotate_left
                  · go_simp; rfl
                  simp only [Act.put, List.setIfInBounds_toArray, List.set_cons_zero, List.set_cons_succ]
                  refine stepsI_float (i := 4) (v := ?_) (some 202) (by kernel_rfl) rfl rfl rfl (fun w' hI => ?_) ?_
                  rotate_left
                  · go_simp; rfl
                  simp only [Act.put, List.setIfInBounds_toArray, List.set_cons_zero, List.set_cons_succ]
                  refine stepsI_two (i := 1) (k := 5) (HJ.out _ X0.out) (by kernel_rfl) ?_ ?_
                  · skip
                    refine op_value (v := .slice (some ⟨v0.heap.size, 0, none⟩) 0 0) (w' := v0.alloc (.cells #[] 24)) (some 199) rfl rfl rfl (by go_simp) ?_
                    simp only [Act.put, List.setIfInBounds_toArray, List.set_cons_zero, List.set_cons_succ]
                    obtain ⟨u0, hu0⟩ : ∃ z, z = v0.alloc (.cells #[] 24) := ⟨_, rfl⟩
                    have X1 := Lib.hid (show Ext v0 u0 by rw [hu0]; exact X0.out.alloc _)
                    have gg : Ext v0 u0 := by rw [hu0]; exact ext_alloc _ _
                    obtain ⟨gE, hgE⟩ : ∃ z, z = v0.heap.size := ⟨_, rfl⟩
                    rw [← hgE, ← hu0]
                    clear gg hu0
                    refine stepsI_two (i := 3) (k := 5) (HJ.out _ X1.out) (by kernel_rfl) ?_ ?_
                    · skip
                      obtain ⟨gA, cA, u1, hr9, ho9, gg⟩ := run_list1 (gE := gE) (c := cl) HUS.out X1.out hj0 (by omega) 27
                      refine op_append (some 201) rfl rfl rfl rfl (.tmp 199) (.tmp 200) rfl rfl rfl hr9 ?_
                      simp only [Act.put, List.setIfInBounds_toArray, List.set_cons_zero, List.set_cons_succ]
                      have HOW9 := Lib.hid ho9
                      have X2 := Lib.hid (X1.out.trans gg)
                      clear hr9 ho9
                      clear gg
                      have HOWN := HOW9
                      clear HOW9
                      refine stepsI_one (i := 5) (HJ.out _ X2.out) (by kernel_rfl) ?_
                      refine op_value (v := .slice (some ⟨u1.heap.size, 0, none⟩) 1 1) (w' := u1.alloc (.cells #[.slice (some ⟨gU, 0, none⟩) kk kU] 24)) (some 203) rfl rfl rfl (by go_simp) ?_
                      simp only [Act.put, List.setIfInBounds_toArray, List.set_cons_zero, List.set_cons_succ]
                      obtain ⟨u2, hu2⟩ : ∃ z, z = u1.alloc (.cells #[.slice (some ⟨gU, 0, none⟩) kk kU] 24) := ⟨_, rfl⟩
                      have X3 := Lib.hid (show Ext v0 u2 by rw [hu2]; exact X2.out.alloc _)
                      have gg : Ext u1 u2 := by rw [hu2]; exact ext_alloc _ _
                      obtain ⟨gN, hgN⟩ : ∃ z, z = u1.heap.size := ⟨_, rfl⟩
                      have HC9 := Lib.hid (show u2.cell? ⟨gN, 0, none⟩ = some (.slice (some ⟨gU, 0, none⟩) kk kU) by rw [hu2, hgN]; simp)
                      rw [← hgN, ← hu2]
                      clear hgN
                      replace HOWN := Lib.hid (ownsRow_ext HOWN.out gg)
                      clear gg hu2
                      have HCEL := HC9
                      clear HC9
                      refine stepsI_one (i := 6) (HJ.out _ X3.out) (by kernel_rfl) ?_
                      obtain ⟨gB, cB, u3, hr9, hd9, g9⟩ := run_list2 (gx := gN) (cx := 1) (m := kk) (cv := kU) (av := some ⟨gU, 0, none⟩) HUS.out HVN.out X3.out HOWN.out HCEL.out RV.out.rd (by omega) 27
                      refine op_append (some 204) rfl rfl rfl rfl (.tmp 201) (.tmp 203) rfl rfl rfl hr9 ?_
                      simp only [Act.put, List.setIfInBounds_toArray, List.set_cons_zero, List.set_cons_succ]
                      have HLN := Lib.hid hd9
                      have X4 := Lib.hid g9
                      clear hr9 hd9 g9 HOWN HCEL
                      refine stepsI_one (i := 7) (HJ.out _ X4.out) (by kernel_rfl) ?_
                      refine op_call (f := ?_) (args := ?_) (R := fun v w' => ∃ ra rc, v = .tuple #[.slice ra (2 ^ (kk + 2)) rc, .int .i64 0] ∧ OwnC 0 w' ra (2 ^ (kk + 2)) rc (wpL p qs (vs ++ [xv]) (j + 1)) ∧ Ext v0 w') (some 205) rfl rfl rfl ?_ ?_ ?_
                      rotate_left 2
                      · go_simp; refine ⟨?_, ?_⟩ <;> rfl
                      · refine Calls.mono (c_WedgeOfPoints_ok p a kk cap qs (some ⟨gB, 0, none⟩) (j + 1) cB (vs ++ [xv]) u3 (by omega) (by omega) HR9.out (HQ.out.ext X4.out) HLN.out HC18.out) ?_
                        rintro e w9 ⟨ra, rc, rfl, ho9, g9⟩
                        exact ⟨_, rfl, ra, rc, rfl, ho9.mono (Nat.zero_le _), X4.out.trans g9⟩
                      rintro v w9 ⟨rW, kW, rfl, how, g9⟩
                      simp only [Act.put, List.setIfInBounds_toArray, List.set_cons_zero, List.set_cons_succ]
                      have RW := Lib.hid how
                      have X9 := Lib.hid g9
                      clear how g9
                      refine stepsI_float (i := 8) (v := ?_) (some 197) (by kernel_rfl) rfl rfl rfl (fun w' hI => ?_) ?_
                      rotate_left
                      · go_simp; rfl
                      simp only [Act.put, List.setIfInBounds_toArray, List.set_cons_zero, List.set_cons_succ]
                      refine stepsI_float (i := 9) (v := ?_) (some 206) (by kernel_rfl) rfl rfl rfl (fun w' hI => ?_) ?_
                      rotate_left
                      · go_simp; rfl
                      simp only [Act.put, List.setIfInBounds_toArray, List.set_cons_zero, List.set_cons_succ]
                      refine stepsI_float (i := 10) (v := ?_) (some 207) (by kernel_rfl) rfl rfl rfl (fun w' hI => ?_) ?_
                      rotate_left
                      · go_simp; rfl
                      simp only [Act.put, List.setIfInBounds_toArray, List.set_cons_zero, List.set_cons_succ]
                      refine stepsI_one (i := 11) (HJ.out _ X9.out) (by kernel_rfl) ?_
                      refine op_value (v := ?_) (w' := w9) (some 29) rfl rfl rfl ?_ ?_
                      rotate_left
                      · go_simp; rfl
                      simp only [Act.put, List.setIfInBounds_toArray]
                      refine stepsI_one (i := 12) (HJ.out _ X9.out) (by kernel_rfl) ?_
                      refine op_value (v := ?_) (w' := w9) (some 30) rfl rfl rfl ?_ ?_
                      rotate_left
                      · go_simp; rfl
                      simp only [Act.put, List.setIfInBounds_toArray]
                      refine stepsI_end (HJ.out _ X9.out) (by kernel_rfl) ?_
                      clear HJ HJ2
                      replace E := Lib.hid (E.out.trans X9.out)
                      replace HQ := Lib.hid (HQ.out.ext X9.out)
                      replace HL := Lib.hid (HL.out.ext X9.out)
                      replace RZ := Lib.hid (RZ.out.ext X9.out)
                      replace RA := Lib.hid (RA.out.ext X9.out)
                      replace RE := Lib.hid (RE.out.ext X9.out)
                      replace RV := Lib.hid (RV.out.ext X9.out)
                      replace C0 := Lib.hid (X9.out.cell (p := ⟨O, 0, none⟩) C0.out)
                      replace C1 := Lib.hid (X9.out.cell (p := ⟨O, 1, none⟩) C1.out)
                      replace D0 := Lib.hid (X9.out.cell (p := ⟨O2, 0, none⟩) D0.out)
                      replace D1 := Lib.hid (X9.out.cell (p := ⟨O2, 1, none⟩) D1.out)
                      have HBX := Lib.hid (HBO.out xv)
                      rw [HVN.out] at HBX
                      obtain ⟨ZZ, hZZ⟩ : ∃ z, z = zeroB (wpL p qs (vs ++ [xv]) (j + 1)) := ⟨_, rfl⟩
                      have HZZ := Lib.hid hZZ
                      rw [← hZZ] at HBX
                      clear hZZ
                      obtain ⟨NW, hNW⟩ : ∃ z, z = 2 ^ (kk + 2) := ⟨_, rfl⟩
                      have hNW6 : NW ≤ 64 := by rw [hNW]; exact pow_le64 (by omega)
                      rw [← hNW] at RW ⊢
                      clear hNW X9
                      have x00 := C0.out
                      have x01 := C1.out
                      have x10 := D0.out
                      have x11 := D1.out
                      go_wp2_with (fail)
                      clear x00 x01 x10 x11
                      refine Calls.mono (c_IsOnSphere_ok p a kk cap qs rZ kZ (sphL p qs vs) (some ⟨gU, 0, none⟩) kU xv w9 HSP.out h4L HQ.out RZ.out.rd HGX.out RV.out.rd HGRV.out) ?_
                      rintro e v15 ⟨rfl, gg⟩
                      rw [HBX.out]
                      replace E := Lib.hid (E.out.trans gg)
                      replace HQ := Lib.hid (HQ.out.ext gg)
                      replace HL := Lib.hid (HL.out.ext gg)
                      replace RZ := Lib.hid (RZ.out.ext gg)
                      replace RA := Lib.hid (RA.out.ext gg)
                      replace RE := Lib.hid (RE.out.ext gg)
                      replace RV := Lib.hid (RV.out.ext gg)
                      replace RW := Lib.hid (RW.out.ext gg)
                      replace C0 := Lib.hid (gg.cell (p := ⟨O, 0, none⟩) C0.out)
                      replace C1 := Lib.hid (gg.cell (p := ⟨O, 1, none⟩) C1.out)
                      replace D0 := Lib.hid (gg.cell (p := ⟨O2, 0, none⟩) D0.out)
                      replace D1 := Lib.hid (gg.cell (p := ⟨O2, 1, none⟩) D1.out)
                      clear gg
                      have x00 := C0.out
                      have x01 := C1.out
                      have x10 := D0.out
                      have x11 := D1.out
                      go_wp2_with (fail)
                      clear x00 x01 x10 x11
                      refine Calls.mono (l_zero9 rW NW kW (wpL p qs (vs ++ [xv]) (j + 1)) v15 (by omega) RW.out.rd) ?_
                      rintro e v16 ⟨rfl, gg⟩
                      rw [← HZZ.out]
                      replace E := Lib.hid (E.out.trans gg)
                      replace HQ := Lib.hid (HQ.out.ext gg)
                      replace HL := Lib.hid (HL.out.ext gg)
                      replace RZ := Lib.hid (RZ.out.ext gg)
                      replace RA := Lib.hid (RA.out.ext gg)
                      replace RE := Lib.hid (RE.out.ext gg)
                      replace RV := Lib.hid (RV.out.ext gg)
                      replace RW := Lib.hid (RW.out.ext gg)
                      replace C0 := Lib.hid (gg.cell (p := ⟨O, 0, none⟩) C0.out)
                      replace C1 := Lib.hid (gg.cell (p := ⟨O, 1, none⟩) C1.out)
                      replace D0 := Lib.hid (gg.cell (p := ⟨O2, 0, none⟩) D0.out)
                      replace D1 := Lib.hid (gg.cell (p := ⟨O2, 1, none⟩) D1.out)
                      clear gg
                      have hzz : (ZZ == ZZ) = true := by simp
                      go_wp2_with (fail)
                      go_ret
                      exact ⟨rfl, E.out⟩
                    · skip
                      refine op_value (v := .slice (some ⟨u0.heap.size, 0, none⟩) 1 1) (w' := u0.alloc (.cells #[.slice (some ⟨gU, 0, none⟩) kk kU] 24)) (some 203) rfl rfl rfl (by go_simp) ?_
                      simp only [Act.put, List.setIfInBounds_toArray, List.set_cons_zero, List.set_cons_succ]
                      obtain ⟨u1, hu1⟩ : ∃ z, z = u0.alloc (.cells #[.slice (some ⟨gU, 0, none⟩) kk kU] 24) := ⟨_, rfl⟩
                      have X2 := Lib.hid (show Ext v0 u1 by rw [hu1]; exact X1.out.alloc _)
                      have gg : Ext u0 u1 := by rw [hu1]; exact ext_alloc _ _
                      obtain ⟨gN, hgN⟩ : ∃ z, z = u0.heap.size := ⟨_, rfl⟩
                      have HC9 := Lib.hid (show u1.cell? ⟨gN, 0, none⟩ = some (.slice (some ⟨gU, 0, none⟩) kk kU) by rw [hu1, hgN]; simp)
                      rw [← hgN, ← hu1]
                      clear hgN
                      clear gg hu1
                      have HCEL := HC9
                      clear HC9
                      refine stepsI_one (i := 3) (HJ.out _ X2.out) (by kernel_rfl) ?_
                      obtain ⟨gA, cA, u2, hr9, ho9, gg⟩ := run_list1 (gE := gE) (c := cl) HUS.out X2.out hj0 (by omega) 27
                      refine op_append (some 201) rfl rfl rfl rfl (.tmp 199) (.tmp 200) rfl rfl rfl hr9 ?_
                      simp only [Act.put, List.setIfInBounds_toArray, List.set_cons_zero, List.set_cons_succ]
                      have HOW9 := Lib.hid ho9
                      have X3 := Lib.hid (X2.out.trans gg)
                      clear hr9 ho9
                      replace HCEL := Lib.hid (gg.cell HCEL.out)
                      clear gg
                      have HOWN := HOW9
                      clear HOW9
                      refine stepsI_one (i := 6) (HJ.out _ X3.out) (by kernel_rfl) ?_
                      obtain ⟨gB, cB, u3, hr9, hd9, g9⟩ := run_list2 (gx := gN) (cx := 1) (m := kk) (cv := kU) (av := some ⟨gU, 0, none⟩) HUS.out HVN.out X3.out HOWN.out HCEL.out RV.out.rd (by omega) 27
                      refine op_append (some 204) rfl rfl rfl rfl (.tmp 201) (.tmp 203) rfl rfl rfl hr9 ?_
                      simp only [Act.put, List.setIfInBounds_toArray, List.set_cons_zero, List.set_cons_succ]
                      have HLN := Lib.hid hd9
                      have X4 := Lib.hid g9
                      clear hr9 hd9 g9 HOWN HCEL
                      refine stepsI_one (i := 7) (HJ.out _ X4.out) (by kernel_rfl) ?_
                      refine op_call (f := ?_) (args := ?_) (R := fun v w' => ∃ ra rc, v = .tuple #[.slice ra (2 ^ (kk + 2)) rc, .int .i64 0] ∧ OwnC 0 w' ra (2 ^ (kk + 2)) rc (wpL p qs (vs ++ [xv]) (j + 1)) ∧ Ext v0 w') (some 205) rfl rfl rfl ?_ ?_ ?_
                      rotate_left 2
                      · go_simp; refine ⟨?_, ?_⟩ <;> rfl
                      · refine Calls.mono (c_WedgeOfPoints_ok p a kk cap qs (some ⟨gB, 0, none⟩) (j + 1) cB (vs ++ [xv]) u3 (by omega) (by omega) HR9.out (HQ.out.ext X4.out) HLN.out HC18.out) ?_
                        rintro e w9 ⟨ra, rc, rfl, ho9, g9⟩
                        exact ⟨_, rfl, ra, rc, rfl, ho9.mono (Nat.zero_le _), X4.out.trans g9⟩
                      rintro v w9 ⟨rW, kW, rfl, how, g9⟩
                      simp only [Act.put, List.setIfInBounds_toArray, List.set_cons_zero, List.set_cons_succ]
                      have RW := Lib.hid how
                      have X9 := Lib.hid g9
                      clear how g9
                      refine stepsI_float (i := 8) (v := ?_) (some 197) (by kernel_rfl) rfl rfl rfl (fun w' hI => ?_) ?_
                      rotate_left
                      · go_simp; rfl
                      simp only [Act.put, List.setIfInBounds_toArray, List.set_cons_zero, List.set_cons_succ]
                      refine stepsI_float (i := 9) (v := ?_) (some 206) (by kernel_rfl) rfl rfl rfl (fun w' hI => ?_) ?_
                      rotate_left
                      · go_simp; rfl
                      simp only [Act.put, List.setIfInBounds_toArray, List.set_cons_zero, List.set_cons_succ]
                      refine stepsI_float (i := 10) (v := ?_) (some 207) (by kernel_rfl) rfl rfl rfl (fun w' hI => ?_) ?_
                      rotate_left
                      · go_simp; rfl
                      simp only [Act.put, List.setIfInBounds_toArray, List.set_cons_zero, List.set_cons_succ]
                      refine stepsI_one (i := 11) (HJ.out _ X9.out) (by kernel_rfl) ?_
                      refine op_value (v := ?_) (w' := w9) (some 29) rfl rfl rfl ?_ ?_
                      rotate_left
                      · go_simp; rfl
                      simp only [Act.put, List.setIfInBounds_toArray]
                      refine stepsI_one (i := 12) (HJ.out _ X9.out) (by kernel_rfl) ?_
                      refine op_value (v := ?_) (w' := w9) (some 30) rfl rfl rfl ?_ ?_
                      rotate_left
                      · go_simp; rfl
                      simp only [Act.put, List.setIfInBounds_toArray]
                      refine stepsI_end (HJ.out _ X9.out) (by kernel_rfl) ?_
                      clear HJ HJ2
                      replace E := Lib.hid (E.out.trans X9.out)
                      replace HQ := Lib.hid (HQ.out.ext X9.out)
                      replace HL := Lib.hid (HL.out.ext X9.out)
                      replace RZ := Lib.hid (RZ.out.ext X9.out)
                      replace RA := Lib.hid (RA.out.ext X9.out)
                      replace RE := Lib.hid (RE.out.ext X9.out)
                      replace RV := Lib.hid (RV.out.ext X9.out)
                      replace C0 := Lib.hid (X9.out.cell (p := ⟨O, 0, none⟩) C0.out)
                      replace C1 := Lib.hid (X9.out.cell (p := ⟨O, 1, none⟩) C1.out)
                      replace D0 := Lib.hid (X9.out.cell (p := ⟨O2, 0, none⟩) D0.out)
                      replace D1 := Lib.hid (X9.out.cell (p := ⟨O2, 1, none⟩) D1.out)
                      have HBX := Lib.hid (HBO.out xv)
                      rw [HVN.out] at HBX
                      obtain ⟨ZZ, hZZ⟩ : ∃ z, z = zeroB (wpL p qs (vs ++ [xv]) (j + 1)) := ⟨_, rfl⟩
                      have HZZ := Lib.hid hZZ
                      rw [← hZZ] at HBX
                      clear hZZ
                      obtain ⟨NW, hNW⟩ : ∃ z, z = 2 ^ (kk + 2) := ⟨_, rfl⟩
                      have hNW6 : NW ≤ 64 := by rw [hNW]; exact pow_le64 (by omega)
                      rw [← hNW] at RW ⊢
                      clear hNW X9
                      have x00 := C0.out
                      have x01 := C1.out
                      have x10 := D0.out
                      have x11 := D1.out
                      go_wp2_with (fail)
                      clear x00 x01 x10 x11
                      refine Calls.mono (c_IsOnSphere_ok p a kk cap qs rZ kZ (sphL p qs vs) (some ⟨gU, 0, none⟩) kU xv w9 HSP.out h4L HQ.out RZ.out.rd HGX.out RV.out.rd HGRV.out) ?_
                      rintro e v17 ⟨rfl, gg⟩
                      rw [HBX.out]
                      replace E := Lib.hid (E.out.trans gg)
                      replace HQ := Lib.hid (HQ.out.ext gg)
                      replace HL := Lib.hid (HL.out.ext gg)
                      replace RZ := Lib.hid (RZ.out.ext gg)
                      replace RA := Lib.hid (RA.out.ext gg)
                      replace RE := Lib.hid (RE.out.ext gg)
                      replace RV := Lib.hid (RV.out.ext gg)
                      replace RW := Lib.hid (RW.out.ext gg)
                      replace C0 := Lib.hid (gg.cell (p := ⟨O, 0, none⟩) C0.out)
                      replace C1 := Lib.hid (gg.cell (p := ⟨O, 1, none⟩) C1.out)
                      replace D0 := Lib.hid (gg.cell (p := ⟨O2, 0, none⟩) D0.out)
                      replace D1 := Lib.hid (gg.cell (p := ⟨O2, 1, none⟩) D1.out)
                      clear gg
                      have x00 := C0.out
                      have x01 := C1.out
                      have x10 := D0.out
                      have x11 := D1.out
                      go_wp2_with (fail)
                      clear x00 x01 x10 x11
                      refine Calls.mono (l_zero9 rW NW kW (wpL p qs (vs ++ [xv]) (j + 1)) v17 (by omega) RW.out.rd) ?_
                      rintro e v18 ⟨rfl, gg⟩
                      rw [← HZZ.out]
                      replace E := Lib.hid (E.out.trans gg)
                      replace HQ := Lib.hid (HQ.out.ext gg)
                      replace HL := Lib.hid (HL.out.ext gg)
                      replace RZ := Lib.hid (RZ.out.ext gg)
                      replace RA := Lib.hid (RA.out.ext gg)
                      replace RE := Lib.hid (RE.out.ext gg)
                      replace RV := Lib.hid (RV.out.ext gg)
                      replace RW := Lib.hid (RW.out.ext gg)
                      replace C0 := Lib.hid (gg.cell (p := ⟨O, 0, none⟩) C0.out)
                      replace C1 := Lib.hid (gg.cell (p := ⟨O, 1, none⟩) C1.out)
                      replace D0 := Lib.hid (gg.cell (p := ⟨O2, 0, none⟩) D0.out)
                      replace D1 := Lib.hid (gg.cell (p := ⟨O2, 1, none⟩) D1.out)
                      clear gg
                      have hzz : (ZZ == ZZ) = true := by simp
                      go_wp2_with (fail)
                      go_ret
                      exact ⟨rfl, E.out⟩
                  · skip
                    refine op_value (v := .slice (some ⟨v0.heap.size, 0, none⟩) 1 1) (w' := v0.alloc (.cells #[.slice (some ⟨gU, 0, none⟩) kk kU] 24)) (some 203) rfl rfl rfl (by go_simp) ?_
                    simp only [Act.put, List.setIfInBounds_toArray, List.set_cons_zero, List.set_cons_succ]
                    obtain ⟨u0, hu0⟩ : ∃ z, z = v0.alloc (.cells #[.slice (some ⟨gU, 0, none⟩) kk kU] 24) := ⟨_, rfl⟩
                    have X1 := Lib.hid (show Ext v0 u0 by rw [hu0]; exact X0.out.alloc _)
                    have gg : Ext v0 u0 := by rw [hu0]; exact ext_alloc _ _
                    obtain ⟨gN, hgN⟩ : ∃ z, z = v0.heap.size := ⟨_, rfl⟩
                    have HC9 := Lib.hid (show u0.cell? ⟨gN, 0, none⟩ = some (.slice (some ⟨gU, 0, none⟩) kk kU) by rw [hu0, hgN]; simp)
                    rw [← hgN, ← hu0]
                    clear hgN
                    clear gg hu0
                    have HCEL := HC9
                    clear HC9
                    refine stepsI_one (i := 1) (HJ.out _ X1.out) (by kernel_rfl) ?_
                    refine op_value (v := .slice (some ⟨u0.heap.size, 0, none⟩) 0 0) (w' := u0.alloc (.cells #[] 24)) (some 199) rfl rfl rfl (by go_simp) ?_
                    simp only [Act.put, List.setIfInBounds_toArray, List.set_cons_zero, List.set_cons_succ]
                    obtain ⟨u1, hu1⟩ : ∃ z, z = u0.alloc (.cells #[] 24) := ⟨_, rfl⟩
                    have X2 := Lib.hid (show Ext v0 u1 by rw [hu1]; exact X1.out.alloc _)
                    have gg : Ext u0 u1 := by rw [hu1]; exact ext_alloc _ _
                    obtain ⟨gE, hgE⟩ : ∃ z, z = u0.heap.size := ⟨_, rfl⟩
                    rw [← hgE, ← hu1]
                    replace HCEL := Lib.hid (gg.cell HCEL.out)
                    clear gg hu1
                    refine stepsI_one (i := 3) (HJ.out _ X2.out) (by kernel_rfl) ?_
                    obtain ⟨gA, cA, u2, hr9, ho9, gg⟩ := run_list1 (gE := gE) (c := cl) HUS.out X2.out hj0 (by omega) 27
                    refine op_append (some 201) rfl rfl rfl rfl (.tmp 199) (.tmp 200) rfl rfl rfl hr9 ?_
                    simp only [Act.put, List.setIfInBounds_toArray, List.set_cons_zero, List.set_cons_succ]
                    have HOW9 := Lib.hid ho9
                    have X3 := Lib.hid (X2.out.trans gg)
                    clear hr9 ho9
                    replace HCEL := Lib.hid (gg.cell HCEL.out)
                    clear gg
                    have HOWN := HOW9
                    clear HOW9
                    refine stepsI_one (i := 6) (HJ.out _ X3.out) (by kernel_rfl) ?_
                    obtain ⟨gB, cB, u3, hr9, hd9, g9⟩ := run_list2 (gx := gN) (cx := 1) (m := kk) (cv := kU) (av := some ⟨gU, 0, none⟩) HUS.out HVN.out X3.out HOWN.out HCEL.out RV.out.rd (by omega) 27
                    refine op_append (some 204) rfl rfl rfl rfl (.tmp 201) (.tmp 203) rfl rfl rfl hr9 ?_
                    simp only [Act.put, List.setIfInBounds_toArray, List.set_cons_zero, List.set_cons_succ]
                    have HLN := Lib.hid hd9
                    have X4 := Lib.hid g9
                    clear hr9 hd9 g9 HOWN HCEL
                    refine stepsI_one (i := 7) (HJ.out _ X4.out) (by kernel_rfl) ?_
                    refine op_call (f := ?_) (args := ?_) (R := fun v w' => ∃ ra rc, v = .tuple #[.slice ra (2 ^ (kk + 2)) rc, .int .i64 0] ∧ OwnC 0 w' ra (2 ^ (kk + 2)) rc (wpL p qs (vs ++ [xv]) (j + 1)) ∧ Ext v0 w') (some 205) rfl rfl rfl ?_ ?_ ?_
                    rotate_left 2
                    · go_simp; refine ⟨?_, ?_⟩ <;> rfl
                    · refine Calls.mono (c_WedgeOfPoints_ok p a kk cap qs (some ⟨gB, 0, none⟩) (j + 1) cB (vs ++ [xv]) u3 (by omega) (by omega) HR9.out (HQ.out.ext X4.out) HLN.out HC18.out) ?_
                      rintro e w9 ⟨ra, rc, rfl, ho9, g9⟩
                      exact ⟨_, rfl, ra, rc, rfl, ho9.mono (Nat.zero_le _), X4.out.trans g9⟩
                    rintro v w9 ⟨rW, kW, rfl, how, g9⟩
                    simp only [Act.put, List.setIfInBounds_toArray, List.set_cons_zero, List.set_cons_succ]
                    have RW := Lib.hid how
                    have X9 := Lib.hid g9
                    clear how g9
                    refine stepsI_float (i := 8) (v := ?_) (some 197) (by kernel_rfl) rfl rfl rfl (fun w' hI => ?_) ?_
                    rotate_left
                    · go_simp; rfl
                    simp only [Act.put, List.setIfInBounds_toArray, List.set_cons_zero, List.set_cons_succ]
                    refine stepsI_float (i := 9) (v := ?_) (some 206) (by kernel_rfl) rfl rfl rfl (fun w' hI => ?_) ?_
                    rotate_left
                    · go_simp; rfl
                    simp only [Act.put, List.setIfInBounds_toArray, List.set_cons_zero, List.set_cons_succ]
                    refine stepsI_float (i := 10) (v := ?_) (some 207) (by kernel_rfl) rfl rfl rfl (fun w' hI => ?_) ?_
                    rotate_left
                    · go_simp; rfl
                    simp only [Act.put, List.setIfInBounds_toArray, List.set_cons_zero, List.set_cons_succ]
                    refine stepsI_one (i := 11) (HJ.out _ X9.out) (by kernel_rfl) ?_
                    refine op_value (v := ?_) (w' := w9) (some 29) rfl rfl rfl ?_ ?_
                    rotate_left
                    · go_simp; rfl
                    simp only [Act.put, List.setIfInBounds_toArray]
                    refine stepsI_one (i := 12) (HJ.out _ X9.out) (by kernel_rfl) ?_
                    refine op_value (v := ?_) (w' := w9) (some 30) rfl rfl rfl ?_ ?_
                    rotate_left
                    · go_simp; rfl
                    simp only [Act.put, List.setIfInBounds_toArray]
                    refine stepsI_end (HJ.out _ X9.out) (by kernel_rfl) ?_
                    clear HJ HJ2
                    replace E := Lib.hid (E.out.trans X9.out)
                    replace HQ := Lib.hid (HQ.out.ext X9.out)
                    replace HL := Lib.hid (HL.out.ext X9.out)
                    replace RZ := Lib.hid (RZ.out.ext X9.out)
                    replace RA := Lib.hid (RA.out.ext X9.out)
                    replace RE := Lib.hid (RE.out.ext X9.out)
                    replace RV := Lib.hid (RV.out.ext X9.out)
                    replace C0 := Lib.hid (X9.out.cell (p := ⟨O, 0, none⟩) C0.out)
                    replace C1 := Lib.hid (X9.out.cell (p := ⟨O, 1, none⟩) C1.out)
                    replace D0 := Lib.hid (X9.out.cell (p := ⟨O2, 0, none⟩) D0.out)
                    replace D1 := Lib.hid (X9.out.cell (p := ⟨O2, 1, none⟩) D1.out)
                    have HBX := Lib.hid (HBO.out xv)
                    rw [HVN.out] at HBX
                    obtain ⟨ZZ, hZZ⟩ : ∃ z, z = zeroB (wpL p qs (vs ++ [xv]) (j + 1)) := ⟨_, rfl⟩
                    have HZZ := Lib.hid hZZ
                    rw [← hZZ] at HBX
                    clear hZZ
                    obtain ⟨NW, hNW⟩ : ∃ z, z = 2 ^ (kk + 2) := ⟨_, rfl⟩
                    have hNW6 : NW ≤ 64 := by rw [hNW]; exact pow_le64 (by omega)
                    rw [← hNW] at RW ⊢
                    clear hNW X9
                    have x00 := C0.out
                    have x01 := C1.out
                    have x10 := D0.out
                    have x11 := D1.out
                    go_wp2_with (fail)
                    clear x00 x01 x10 x11
                    refine Calls.mono (c_IsOnSphere_ok p a kk cap qs rZ kZ (sphL p qs vs) (some ⟨gU, 0, none⟩) kU xv w9 HSP.out h4L HQ.out RZ.out.rd HGX.out RV.out.rd HGRV.out) ?_
                    rintro e v19 ⟨rfl, gg⟩
                    rw [HBX.out]
                    replace E := Lib.hid (E.out.trans gg)
                    replace HQ := Lib.hid (HQ.out.ext gg)
                    replace HL := Lib.hid (HL.out.ext gg)
                    replace RZ := Lib.hid (RZ.out.ext gg)
                    replace RA := Lib.hid (RA.out.ext gg)
                    replace RE := Lib.hid (RE.out.ext gg)
                    replace RV := Lib.hid (RV.out.ext gg)
                    replace RW := Lib.hid (RW.out.ext gg)
                    replace C0 := Lib.hid (gg.cell (p := ⟨O, 0, none⟩) C0.out)
                    replace C1 := Lib.hid (gg.cell (p := ⟨O, 1, none⟩) C1.out)
                    replace D0 := Lib.hid (gg.cell (p := ⟨O2, 0, none⟩) D0.out)
                    replace D1 := Lib.hid (gg.cell (p := ⟨O2, 1, none⟩) D1.out)
                    clear gg
                    have x00 := C0.out
                    have x01 := C1.out
                    have x10 := D0.out
                    have x11 := D1.out
                    go_wp2_with (fail)
                    clear x00 x01 x10 x11
                    refine Calls.mono (l_zero9 rW NW kW (wpL p qs (vs ++ [xv]) (j + 1)) v19 (by omega) RW.out.rd) ?_
                    rintro e v20 ⟨rfl, gg⟩
                    rw [← HZZ.out]
                    replace E := Lib.hid (E.out.trans gg)
                    replace HQ := Lib.hid (HQ.out.ext gg)
                    replace HL := Lib.hid (HL.out.ext gg)
                    replace RZ := Lib.hid (RZ.out.ext gg)
                    replace RA := Lib.hid (RA.out.ext gg)
                    replace RE := Lib.hid (RE.out.ext gg)
                    replace RV := Lib.hid (RV.out.ext gg)
                    replace RW := Lib.hid (RW.out.ext gg)
                    replace C0 := Lib.hid (gg.cell (p := ⟨O, 0, none⟩) C0.out)
                    replace C1 := Lib.hid (gg.cell (p := ⟨O, 1, none⟩) C1.out)
                    replace D0 := Lib.hid (gg.cell (p := ⟨O2, 0, none⟩) D0.out)
                    replace D1 := Lib.hid (gg.cell (p := ⟨O2, 1, none⟩) D1.out)
                    clear gg
                    have hzz : (ZZ == ZZ) = true := by simp
                    go_wp2_with (fail)
                    go_ret
                    exact ⟨rfl, E.out⟩
end Go.Proofs.YtcocbainookkcaaGreat
