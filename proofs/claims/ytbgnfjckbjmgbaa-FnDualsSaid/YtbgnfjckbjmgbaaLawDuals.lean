/-
  The law FnDuals returns true.
  No condition.
-/
import Derived.Test.YtbgnfjckbjmgbaaPart8
namespace Go.Proofs.Ytbgnfjckbjmgbaa
set_option maxRecDepth 100000
open Go.RowKit

set_option maxHeartbeats 8000000 in
set_option maxRecDepth 100000 in
theorem law_Duals (w : World) (ac : Option Addr) (nc cc : Nat) (hb : RdY w ac nc) :
    Calls Try.prog 7 #[.slice ac nc cc] w fun e w' => e = .returned (.bool true) ∧ Ext w w' := by
  have HB := Lib.hid hb
  clear hb
  go_enter Try.func7, Try.ntmps7
  go_wp2_with (fail)
  refine Calls.mono (l_big ac nc cc w) ?_
  rintro e w1 ⟨rfl, g0⟩
  have E := Lib.hid g0
  by_cases hbig : 4096 < nc
  · have hbb : decide (4096 < nc) = true := by simp [hbig]
    rw [hbb]
    go_wp2_with (fail)
    go_ret
    exact ⟨rfl, E.out⟩
  have hbb : decide (4096 < nc) = false := by simp [hbig]
  rw [hbb]
  clear g0 hbb
  go_wp2_with (fail)
  refine Calls.mono (s_drawMeetOf ac nc cc w1 (by omega) (HB.out.ext E.out)) ?_
  rintro e w2 ⟨p, a, d, cap, qs, ax, nx, cx, x, ay, ny, cy, y, rfl, hp0, hp1, hd, hnx, hny, hq, hx, hy, g1⟩
  have E1 := Lib.hid g1
  replace E := Lib.hid (E.out.trans g1)
  have HQ := Lib.hid hq.rd
  have HX := Lib.hid hx.rd
  have HY := Lib.hid hy.rd
  clear hq hx hy g1
  go_wp2_with (fail)
  obtain ⟨O, hO⟩ : ∃ O, O = w2.heap.size := ⟨_, rfl⟩
  obtain ⟨W, hW⟩ : ∃ W, W = w2.alloc (.cells #[.int .i64 p, .slice a d cap] 26) := ⟨_, rfl⟩
  have C0 := Lib.hid (show W.cell? ⟨O, 0, none⟩ = some (.int .i64 p) by rw [hW, hO]; simp)
  have C1 := Lib.hid (show W.cell? ⟨O, 1, none⟩ = some (.slice a d cap) by rw [hW, hO]; simp)
  have gg : Ext w2 W := by rw [hW]; exact ext_alloc _ _
  rw [← hO, ← hW]
  clear hO hW E1
  replace E := Lib.hid (E.out.trans gg)
  replace HQ := Lib.hid (HQ.out.ext gg)
  replace HX := Lib.hid (HX.out.ext gg)
  replace HY := Lib.hid (HY.out.ext gg)
  clear gg
  by_cases hc : codeR p qs [x, y] ≠ 0
  · skip
    have x00 := C0.out
    have x01 := C1.out
    go_wp2_with (fail)
    clear x00 x01
    refine Calls.mono (c_MeetOf_bad p a d cap qs ax nx cx x ay ny cy y W (by omega) (by omega) (by omega) HQ.out HX.out HY.out hc) ?_
    rintro e v1 ⟨rZ, kZ, rfl, ho, gg⟩
    have RZ := Lib.hid (ho.mono (Nat.zero_le _))
    clear ho
    replace E := Lib.hid (E.out.trans gg)
    replace HQ := Lib.hid (HQ.out.ext gg)
    replace HX := Lib.hid (HX.out.ext gg)
    replace HY := Lib.hid (HY.out.ext gg)
    replace C0 := Lib.hid (gg.cell (p := ⟨O, 0, none⟩) C0.out)
    replace C1 := Lib.hid (gg.cell (p := ⟨O, 1, none⟩) C1.out)
    clear gg
    have x00 := C0.out
    have x01 := C1.out
    go_wp2_with (fail)
    clear x00 x01
    refine Calls.mono (s_MeetOf_bad p a d cap qs ax nx cx x ay ny cy y v1 (by omega) (by omega) (by omega) HQ.out HX.out HY.out hc) ?_
    rintro e v2 ⟨rT, kT, rfl, ho, gg⟩
    have RT := Lib.hid (ho.mono (Nat.zero_le _))
    clear ho
    replace E := Lib.hid (E.out.trans gg)
    replace HQ := Lib.hid (HQ.out.ext gg)
    replace HX := Lib.hid (HX.out.ext gg)
    replace HY := Lib.hid (HY.out.ext gg)
    replace RZ := Lib.hid (RZ.out.ext gg)
    replace C0 := Lib.hid (gg.cell (p := ⟨O, 0, none⟩) C0.out)
    replace C1 := Lib.hid (gg.cell (p := ⟨O, 1, none⟩) C1.out)
    clear gg
    have hcb : (codeR p qs [x, y] != 0) = true := by simp [hc]
    clear hc
    have x00 := C0.out
    have x01 := C1.out
    go_wp2_with (fail)
    clear x00 x01
    have H := l_like rZ rT 0 0 kZ kT _ _ v2 (by omega) (by omega) RZ.out.rd RT.out.rd
    rw [eqB_self] at H
    refine Calls.mono H ?_
    clear H
    rintro e v3 ⟨rfl, gg⟩
    replace E := Lib.hid (E.out.trans gg)
    replace HQ := Lib.hid (HQ.out.ext gg)
    replace HX := Lib.hid (HX.out.ext gg)
    replace HY := Lib.hid (HY.out.ext gg)
    replace RZ := Lib.hid (RZ.out.ext gg)
    replace RT := Lib.hid (RT.out.ext gg)
    replace C0 := Lib.hid (gg.cell (p := ⟨O, 0, none⟩) C0.out)
    replace C1 := Lib.hid (gg.cell (p := ⟨O, 1, none⟩) C1.out)
    clear gg
    go_wp2_with (fail)
    go_ret
    exact ⟨rfl, E.out⟩
  replace hc : codeR p qs [x, y] = 0 := by simpa using hc
  have x00 := C0.out
  have x01 := C1.out
  go_wp2_with (fail)
  clear x00 x01
  refine Calls.mono (c_MeetOf_ok p a d cap qs ax nx cx x ay ny cy y W (by omega) (by omega) (by omega) HQ.out HX.out HY.out hc) ?_
  rintro e v1 ⟨rZ, kZ, rfl, ho, gg⟩
  have RZ := Lib.hid (ho.mono (Nat.zero_le _))
  clear ho
  replace E := Lib.hid (E.out.trans gg)
  replace HQ := Lib.hid (HQ.out.ext gg)
  replace HX := Lib.hid (HX.out.ext gg)
  replace HY := Lib.hid (HY.out.ext gg)
  replace C0 := Lib.hid (gg.cell (p := ⟨O, 0, none⟩) C0.out)
  replace C1 := Lib.hid (gg.cell (p := ⟨O, 1, none⟩) C1.out)
  clear gg
  have x00 := C0.out
  have x01 := C1.out
  go_wp2_with (fail)
  clear x00 x01
  refine Calls.mono (s_MeetOf_ok p a d cap qs ax nx cx x ay ny cy y v1 (by omega) (by omega) (by omega) HQ.out HX.out HY.out hc) ?_
  rintro e v2 ⟨rT, kT, rfl, ho, gg⟩
  have RT := Lib.hid (ho.mono (Nat.zero_le _))
  clear ho
  replace E := Lib.hid (E.out.trans gg)
  replace HQ := Lib.hid (HQ.out.ext gg)
  replace HX := Lib.hid (HX.out.ext gg)
  replace HY := Lib.hid (HY.out.ext gg)
  replace RZ := Lib.hid (RZ.out.ext gg)
  replace C0 := Lib.hid (gg.cell (p := ⟨O, 0, none⟩) C0.out)
  replace C1 := Lib.hid (gg.cell (p := ⟨O, 1, none⟩) C1.out)
  clear gg
  obtain ⟨hs, hrg, hgx, hgy⟩ := codeM_of2' hc
  have HRG := Lib.hid hrg
  clear hc hrg
  have HSP := Lib.hid (hs)
  obtain ⟨hpr, hd1, hd6, hqb⟩ := space_of HSP.out
  have hpb := prime_bd hpr
  have HPR := Lib.hid hpr
  have HQB := Lib.hid hqb
  have HD := Lib.hid HQ.out.1
  rw [HD.out] at hd6 hd1
  obtain ⟨N, hN⟩ : ∃ N, N = 2 ^ d := ⟨_, rfl⟩
  have HN := Lib.hid hN
  have hN6 : N ≤ 64 := by rw [hN]; exact pow_le64 hd6
  have hN1 : 1 ≤ N := by rw [hN]; exact pow_pos' d
  have HPG := fun (tk : Nat → Nat → Bool) (x y : List Int) => Lib.hid (show Good p N (prodL p qs tk x y) by rw [hN, ← HD.out]; exact prod_good (by omega))
  have HNQ := Lib.hid (show N = 2 ^ qs.length by rw [hN, HD.out])
  clear hN hqb hpr
  obtain rfl : N = nx := by rw [← HX.out.1, HNQ.out]; exact hgx.1.symm
  obtain rfl : N = ny := by rw [← HY.out.1, HNQ.out]; exact hgy.1.symm
  have HGX := Lib.hid (show Good p N x by rw [HNQ.out]; exact hgx)
  clear hgx
  have HGY := Lib.hid (show Good p N y by rw [HNQ.out]; exact hgy)
  clear hgy
  clear hs
  have hd6' : qs.length ≤ 6 := by rw [HD.out]; exact hd6
  have HD6 := Lib.hid hd6'
  clear hd6'
  have HGM := Lib.hid (show Good p N (meetL p qs x y) by rw [HNQ.out]; exact prod_good (by omega))
  have HDG := fun z : List Int => Lib.hid (show Good p N (dualL p qs z) by rw [HNQ.out]; exact dual_good (by omega))
  have HFG := Lib.hid (show Good p N (fullL d) by rw [HN.out]; exact full_good hpb.1)
  have HQS := Lib.hid (show 0 ≤ sqFull p qs ∧ sqFull p qs < p from sqFull_bd (by omega))
  have HFD := Lib.hid (show fullL d = fullL qs.length by rw [HD.out])
  have HR1 := fun (z : List Int) (hz : Good p N z) => Lib.hid (show codeR p qs [z] = 0 from codeR_one0 HSP.out HRG.out (by rw [← HNQ.out]; exact hz))
  have HR2 := fun (z t : List Int) (hz : Good p N z) (ht : Good p N t) => Lib.hid (show codeR p qs [z, t] = 0 from codeR_two0 HSP.out HRG.out (by rw [← HNQ.out]; exact hz) (by rw [← HNQ.out]; exact ht))
  have HM2 := fun (z t : List Int) (hz : Good p N z) (ht : Good p N t) => Lib.hid (show codeM p qs [z, t] = 0 from codeM_two0 HSP.out (by rw [← HNQ.out]; exact hz) (by rw [← HNQ.out]; exact ht))
  have U1 := Lib.hid (show prodL p qs tkL (dualL p qs x) (fullL d) = x by rw [HFD.out]; exact undual_dual HPR.out HQB.out HD6.out HRG.out (by rw [← HNQ.out]; exact HGX.out))
  have U2 := Lib.hid (show dualL p qs (prodL p qs tkL x (fullL d)) = x by rw [HFD.out]; exact dual_undual HPR.out HQB.out HD6.out HRG.out (by rw [← HNQ.out]; exact HGX.out))
  have U3 := Lib.hid (show meetL p qs (fullL d) x = x by rw [HFD.out]; exact meet_full HPR.out HQB.out HD6.out HRG.out (by rw [← HNQ.out]; exact HGX.out))
  have U4 := Lib.hid (show dualL p qs (meetL p qs x y) = prodL p qs tkW (dualL p qs x) (dualL p qs y) from dual_meet HPR.out HQB.out HD6.out HRG.out)
  have U5 := Lib.hid (show scaleL p (dualL p qs x) (sqFull p qs) N = prodL p qs tkA x (fullL d) by rw [HFD.out, HNQ.out]; exact dual_scaled HPR.out HQB.out HD6.out HRG.out)
  obtain ⟨gZ, rfl⟩ := RZ.out.addr (by omega)
  obtain ⟨gT, rfl⟩ := RT.out.addr (by omega)
  have x00 := C0.out
  have x01 := C1.out
  go_wp2_with (fail)
  clear x00 x01
  have H := l_like (some ⟨gZ, 0, none⟩) (some ⟨gT, 0, none⟩) N N kZ kT _ _ v2 (by omega) (by omega) RZ.out.rd RT.out.rd
  rw [eqB_self] at H
  refine Calls.mono H ?_
  clear H
  rintro e v3 ⟨rfl, gg⟩
  replace E := Lib.hid (E.out.trans gg)
  replace HQ := Lib.hid (HQ.out.ext gg)
  replace HX := Lib.hid (HX.out.ext gg)
  replace HY := Lib.hid (HY.out.ext gg)
  replace RZ := Lib.hid (RZ.out.ext gg)
  replace RT := Lib.hid (RT.out.ext gg)
  replace C0 := Lib.hid (gg.cell (p := ⟨O, 0, none⟩) C0.out)
  replace C1 := Lib.hid (gg.cell (p := ⟨O, 1, none⟩) C1.out)
  clear gg
  clear RT
  have x00 := C0.out
  have x01 := C1.out
  go_wp2_with (fail)
  clear x00 x01
  refine Calls.mono (c_DualOf_ok p a d cap qs _ N _ (x) v3 (by omega) (by omega) HQ.out HX.out (HR1 _ HGX.out).out) ?_
  rintro e v4 ⟨rA, kA, rfl, ho, gg⟩
  obtain ⟨gA, rfl⟩ := ho.addr (by omega)
  have RA := Lib.hid (ho.mono (Nat.zero_le _))
  clear ho
  replace E := Lib.hid (E.out.trans gg)
  replace HQ := Lib.hid (HQ.out.ext gg)
  replace HX := Lib.hid (HX.out.ext gg)
  replace HY := Lib.hid (HY.out.ext gg)
  replace RZ := Lib.hid (RZ.out.ext gg)
  replace C0 := Lib.hid (gg.cell (p := ⟨O, 0, none⟩) C0.out)
  replace C1 := Lib.hid (gg.cell (p := ⟨O, 1, none⟩) C1.out)
  clear gg
  have x00 := C0.out
  have x01 := C1.out
  go_wp2_with (fail)
  clear x00 x01
  refine Calls.mono (c_UndualOf_ok p a d cap qs _ N _ (dualL p qs x) v4 (by omega) (by omega) HQ.out RA.out.rd (HR1 _ (HDG x).out).out) ?_
  rintro e v5 ⟨rB, kB, rfl, ho, gg⟩
  obtain ⟨gB, rfl⟩ := ho.addr (by omega)
  have RB := Lib.hid (ho.mono (Nat.zero_le _))
  clear ho
  replace E := Lib.hid (E.out.trans gg)
  replace HQ := Lib.hid (HQ.out.ext gg)
  replace HX := Lib.hid (HX.out.ext gg)
  replace HY := Lib.hid (HY.out.ext gg)
  replace RZ := Lib.hid (RZ.out.ext gg)
  replace RA := Lib.hid (RA.out.ext gg)
  replace C0 := Lib.hid (gg.cell (p := ⟨O, 0, none⟩) C0.out)
  replace C1 := Lib.hid (gg.cell (p := ⟨O, 1, none⟩) C1.out)
  clear gg
  have x00 := C0.out
  have x01 := C1.out
  go_wp2_with (fail)
  clear x00 x01
  refine Calls.mono (c_UndualOf_ok p a d cap qs _ N _ (x) v5 (by omega) (by omega) HQ.out HX.out (HR1 _ HGX.out).out) ?_
  rintro e v6 ⟨rC, kC, rfl, ho, gg⟩
  obtain ⟨gC, rfl⟩ := ho.addr (by omega)
  have RC := Lib.hid (ho.mono (Nat.zero_le _))
  clear ho
  replace E := Lib.hid (E.out.trans gg)
  replace HQ := Lib.hid (HQ.out.ext gg)
  replace HX := Lib.hid (HX.out.ext gg)
  replace HY := Lib.hid (HY.out.ext gg)
  replace RZ := Lib.hid (RZ.out.ext gg)
  replace RA := Lib.hid (RA.out.ext gg)
  replace RB := Lib.hid (RB.out.ext gg)
  replace C0 := Lib.hid (gg.cell (p := ⟨O, 0, none⟩) C0.out)
  replace C1 := Lib.hid (gg.cell (p := ⟨O, 1, none⟩) C1.out)
  clear gg
  have x00 := C0.out
  have x01 := C1.out
  go_wp2_with (fail)
  clear x00 x01
  refine Calls.mono (c_DualOf_ok p a d cap qs _ N _ (prodL p qs tkL x (fullL d)) v6 (by omega) (by omega) HQ.out RC.out.rd (HR1 _ (HPG tkL x (fullL d)).out).out) ?_
  rintro e v7 ⟨rF, kF, rfl, ho, gg⟩
  obtain ⟨gF, rfl⟩ := ho.addr (by omega)
  have RF := Lib.hid (ho.mono (Nat.zero_le _))
  clear ho
  replace E := Lib.hid (E.out.trans gg)
  replace HQ := Lib.hid (HQ.out.ext gg)
  replace HX := Lib.hid (HX.out.ext gg)
  replace HY := Lib.hid (HY.out.ext gg)
  replace RZ := Lib.hid (RZ.out.ext gg)
  replace RA := Lib.hid (RA.out.ext gg)
  replace RB := Lib.hid (RB.out.ext gg)
  replace RC := Lib.hid (RC.out.ext gg)
  replace C0 := Lib.hid (gg.cell (p := ⟨O, 0, none⟩) C0.out)
  replace C1 := Lib.hid (gg.cell (p := ⟨O, 1, none⟩) C1.out)
  clear gg
  have x00 := C0.out
  have x01 := C1.out
  go_wp2_with (fail)
  clear x00 x01
  refine Calls.mono (c_PseudoscalarOf_ok p a d cap qs v7 HN.out HSP.out HQ.out) ?_
  rintro e v8 ⟨gP, rfl, ho, gg⟩
  have RP := Lib.hid (ho.mono (Nat.zero_le _))
  clear ho
  replace E := Lib.hid (E.out.trans gg)
  replace HQ := Lib.hid (HQ.out.ext gg)
  replace HX := Lib.hid (HX.out.ext gg)
  replace HY := Lib.hid (HY.out.ext gg)
  replace RZ := Lib.hid (RZ.out.ext gg)
  replace RA := Lib.hid (RA.out.ext gg)
  replace RB := Lib.hid (RB.out.ext gg)
  replace RC := Lib.hid (RC.out.ext gg)
  replace RF := Lib.hid (RF.out.ext gg)
  replace C0 := Lib.hid (gg.cell (p := ⟨O, 0, none⟩) C0.out)
  replace C1 := Lib.hid (gg.cell (p := ⟨O, 1, none⟩) C1.out)
  clear gg
  have x00 := C0.out
  have x01 := C1.out
  go_wp2_with (fail)
  clear x00 x01
  refine Calls.mono (c_PseudoscalarSquare_ok p a d cap qs v8 (by omega) HQ.out (by unfold codeS; rw [if_pos HSP.out])) ?_
  rintro e v9 ⟨rfl, gg⟩
  replace E := Lib.hid (E.out.trans gg)
  replace HQ := Lib.hid (HQ.out.ext gg)
  replace HX := Lib.hid (HX.out.ext gg)
  replace HY := Lib.hid (HY.out.ext gg)
  replace RZ := Lib.hid (RZ.out.ext gg)
  replace RA := Lib.hid (RA.out.ext gg)
  replace RB := Lib.hid (RB.out.ext gg)
  replace RC := Lib.hid (RC.out.ext gg)
  replace RF := Lib.hid (RF.out.ext gg)
  replace RP := Lib.hid (RP.out.ext gg)
  replace C0 := Lib.hid (gg.cell (p := ⟨O, 0, none⟩) C0.out)
  replace C1 := Lib.hid (gg.cell (p := ⟨O, 1, none⟩) C1.out)
  clear gg
  have x00 := C0.out
  have x01 := C1.out
  go_wp2_with (fail)
  clear x00 x01
  refine Calls.mono (c_DiscriminantOf_ok p a d cap qs v9 HSP.out HQ.out) ?_
  rintro e v10 ⟨rfl, gg⟩
  replace E := Lib.hid (E.out.trans gg)
  replace HQ := Lib.hid (HQ.out.ext gg)
  replace HX := Lib.hid (HX.out.ext gg)
  replace HY := Lib.hid (HY.out.ext gg)
  replace RZ := Lib.hid (RZ.out.ext gg)
  replace RA := Lib.hid (RA.out.ext gg)
  replace RB := Lib.hid (RB.out.ext gg)
  replace RC := Lib.hid (RC.out.ext gg)
  replace RF := Lib.hid (RF.out.ext gg)
  replace RP := Lib.hid (RP.out.ext gg)
  replace C0 := Lib.hid (gg.cell (p := ⟨O, 0, none⟩) C0.out)
  replace C1 := Lib.hid (gg.cell (p := ⟨O, 1, none⟩) C1.out)
  clear gg
  have x00 := C0.out
  have x01 := C1.out
  go_wp2_with (fail)
  clear x00 x01
  refine Calls.mono (c_MeetOf_ok p a d cap qs _ N _ (fullL d) _ N _ (x) v10 (by omega) (by omega) (by omega) HQ.out RP.out.rd HX.out (HR2 _ _ HFG.out HGX.out).out) ?_
  rintro e v11 ⟨rM, kM, rfl, ho, gg⟩
  obtain ⟨gM, rfl⟩ := ho.addr (by omega)
  have RM := Lib.hid (ho.mono (Nat.zero_le _))
  clear ho
  replace E := Lib.hid (E.out.trans gg)
  replace HQ := Lib.hid (HQ.out.ext gg)
  replace HX := Lib.hid (HX.out.ext gg)
  replace HY := Lib.hid (HY.out.ext gg)
  replace RZ := Lib.hid (RZ.out.ext gg)
  replace RA := Lib.hid (RA.out.ext gg)
  replace RB := Lib.hid (RB.out.ext gg)
  replace RC := Lib.hid (RC.out.ext gg)
  replace RF := Lib.hid (RF.out.ext gg)
  replace RP := Lib.hid (RP.out.ext gg)
  replace C0 := Lib.hid (gg.cell (p := ⟨O, 0, none⟩) C0.out)
  replace C1 := Lib.hid (gg.cell (p := ⟨O, 1, none⟩) C1.out)
  clear gg
  have x00 := C0.out
  have x01 := C1.out
  go_wp2_with (fail)
  clear x00 x01
  refine Calls.mono (c_DualOf_ok p a d cap qs _ N _ (y) v11 (by omega) (by omega) HQ.out HY.out (HR1 _ HGY.out).out) ?_
  rintro e v12 ⟨rG, kG, rfl, ho, gg⟩
  obtain ⟨gG, rfl⟩ := ho.addr (by omega)
  have RG := Lib.hid (ho.mono (Nat.zero_le _))
  clear ho
  replace E := Lib.hid (E.out.trans gg)
  replace HQ := Lib.hid (HQ.out.ext gg)
  replace HX := Lib.hid (HX.out.ext gg)
  replace HY := Lib.hid (HY.out.ext gg)
  replace RZ := Lib.hid (RZ.out.ext gg)
  replace RA := Lib.hid (RA.out.ext gg)
  replace RB := Lib.hid (RB.out.ext gg)
  replace RC := Lib.hid (RC.out.ext gg)
  replace RF := Lib.hid (RF.out.ext gg)
  replace RP := Lib.hid (RP.out.ext gg)
  replace RM := Lib.hid (RM.out.ext gg)
  replace C0 := Lib.hid (gg.cell (p := ⟨O, 0, none⟩) C0.out)
  replace C1 := Lib.hid (gg.cell (p := ⟨O, 1, none⟩) C1.out)
  clear gg
  have x00 := C0.out
  have x01 := C1.out
  go_wp2_with (fail)
  clear x00 x01
  refine Calls.mono (c_WedgeProduct_ok p a d cap qs _ N _ (dualL p qs x) _ N _ (dualL p qs y) v12 (by omega) (by omega) (by omega) HQ.out RA.out.rd RG.out.rd (HM2 _ _ (HDG x).out (HDG y).out).out) ?_
  rintro e v13 ⟨rW, kW, rfl, ho, gg⟩
  obtain ⟨gW, rfl⟩ := ho.addr (by omega)
  have RW := Lib.hid (ho.mono (Nat.zero_le _))
  clear ho
  replace E := Lib.hid (E.out.trans gg)
  replace HQ := Lib.hid (HQ.out.ext gg)
  replace HX := Lib.hid (HX.out.ext gg)
  replace HY := Lib.hid (HY.out.ext gg)
  replace RZ := Lib.hid (RZ.out.ext gg)
  replace RA := Lib.hid (RA.out.ext gg)
  replace RB := Lib.hid (RB.out.ext gg)
  replace RC := Lib.hid (RC.out.ext gg)
  replace RF := Lib.hid (RF.out.ext gg)
  replace RP := Lib.hid (RP.out.ext gg)
  replace RM := Lib.hid (RM.out.ext gg)
  replace RG := Lib.hid (RG.out.ext gg)
  replace C0 := Lib.hid (gg.cell (p := ⟨O, 0, none⟩) C0.out)
  replace C1 := Lib.hid (gg.cell (p := ⟨O, 1, none⟩) C1.out)
  clear gg
  have x00 := C0.out
  have x01 := C1.out
  go_wp2_with (fail)
  clear x00 x01
  refine Calls.mono (c_DualOf_ok p a d cap qs _ N _ (meetL p qs x y) v13 (by omega) (by omega) HQ.out RZ.out.rd (HR1 _ HGM.out).out) ?_
  rintro e v14 ⟨rH, kH, rfl, ho, gg⟩
  obtain ⟨gH, rfl⟩ := ho.addr (by omega)
  have RH := Lib.hid (ho.mono (Nat.zero_le _))
  clear ho
  replace E := Lib.hid (E.out.trans gg)
  replace HQ := Lib.hid (HQ.out.ext gg)
  replace HX := Lib.hid (HX.out.ext gg)
  replace HY := Lib.hid (HY.out.ext gg)
  replace RZ := Lib.hid (RZ.out.ext gg)
  replace RA := Lib.hid (RA.out.ext gg)
  replace RB := Lib.hid (RB.out.ext gg)
  replace RC := Lib.hid (RC.out.ext gg)
  replace RF := Lib.hid (RF.out.ext gg)
  replace RP := Lib.hid (RP.out.ext gg)
  replace RM := Lib.hid (RM.out.ext gg)
  replace RG := Lib.hid (RG.out.ext gg)
  replace RW := Lib.hid (RW.out.ext gg)
  replace C0 := Lib.hid (gg.cell (p := ⟨O, 0, none⟩) C0.out)
  replace C1 := Lib.hid (gg.cell (p := ⟨O, 1, none⟩) C1.out)
  clear gg
  have HDB := Lib.hid (show 0 ≤ discL p qs ∧ discL p qs < p from discS_bd hpb.1 _)
  have hdb := HDB.out
  have hsub : wrap64 ((d : Int) - 1) = (d : Int) - 1 := by unfold wrap64; omega
  have hneg : wrap64 (-discL p qs) = -discL p qs := by unfold wrap64; omega
  have HSD := Lib.hid (sq_disc (p := p) (qs := qs) hpb.1 HD6.out)
  have hpar : ((wrap64 ((wrap64 ((d : Int) * ((d : Int) - 1))).tdiv 2)).tmod 2 == 1) = decide (d * (d - 1) / 2 % 2 = 1) := by
    have : d = 1 ∨ d = 2 ∨ d = 3 ∨ d = 4 ∨ d = 5 ∨ d = 6 := by omega
    rcases this with rfl | rfl | rfl | rfl | rfl | rfl <;> decide +kernel
  by_cases hodd : d * (d - 1) / 2 % 2 = 1
  · have hsq : sqFull p qs = (-discL p qs) % p := by rw [HSD.out, HD.out, if_pos hodd]
    rw [decide_eq_true hodd] at hpar
    have hsb : (sqFull p qs != (-discL p qs) % p) = false := by rw [hsq]; simp
    clear hodd hsq HSD
    have x00 := C0.out
    have x01 := C1.out
    go_wp2_with (fail)
    clear x00 x01
    refine Calls.mono (l_mod5 p (-discL p qs) v14 (by omega) (by omega)) ?_
    rintro e v15 ⟨rfl, gg⟩
    replace E := Lib.hid (E.out.trans gg)
    replace HQ := Lib.hid (HQ.out.ext gg)
    replace HX := Lib.hid (HX.out.ext gg)
    replace HY := Lib.hid (HY.out.ext gg)
    replace RZ := Lib.hid (RZ.out.ext gg)
    replace RA := Lib.hid (RA.out.ext gg)
    replace RB := Lib.hid (RB.out.ext gg)
    replace RC := Lib.hid (RC.out.ext gg)
    replace RF := Lib.hid (RF.out.ext gg)
    replace RP := Lib.hid (RP.out.ext gg)
    replace RM := Lib.hid (RM.out.ext gg)
    replace RG := Lib.hid (RG.out.ext gg)
    replace RW := Lib.hid (RW.out.ext gg)
    replace RH := Lib.hid (RH.out.ext gg)
    replace C0 := Lib.hid (gg.cell (p := ⟨O, 0, none⟩) C0.out)
    replace C1 := Lib.hid (gg.cell (p := ⟨O, 1, none⟩) C1.out)
    clear gg
    have x00 := C0.out
    have x01 := C1.out
    go_wp2_with (fail)
    clear x00 x01
    have H := l_like (some ⟨gB, 0, none⟩) ax N N kB cx _ _ v15 (by omega) (by omega) RB.out.rd HX.out
    rw [U1.out, eqB_self] at H
    refine Calls.mono H ?_
    clear H
    rintro e v16 ⟨rfl, gg⟩
    replace E := Lib.hid (E.out.trans gg)
    replace HQ := Lib.hid (HQ.out.ext gg)
    replace HX := Lib.hid (HX.out.ext gg)
    replace HY := Lib.hid (HY.out.ext gg)
    replace RZ := Lib.hid (RZ.out.ext gg)
    replace RA := Lib.hid (RA.out.ext gg)
    replace RB := Lib.hid (RB.out.ext gg)
    replace RC := Lib.hid (RC.out.ext gg)
    replace RF := Lib.hid (RF.out.ext gg)
    replace RP := Lib.hid (RP.out.ext gg)
    replace RM := Lib.hid (RM.out.ext gg)
    replace RG := Lib.hid (RG.out.ext gg)
    replace RW := Lib.hid (RW.out.ext gg)
    replace RH := Lib.hid (RH.out.ext gg)
    replace C0 := Lib.hid (gg.cell (p := ⟨O, 0, none⟩) C0.out)
    replace C1 := Lib.hid (gg.cell (p := ⟨O, 1, none⟩) C1.out)
    clear gg
    have x00 := C0.out
    have x01 := C1.out
    go_wp2_with (fail)
    clear x00 x01
    have H := l_like (some ⟨gF, 0, none⟩) ax N N kF cx _ _ v16 (by omega) (by omega) RF.out.rd HX.out
    rw [U2.out, eqB_self] at H
    refine Calls.mono H ?_
    clear H
    rintro e v17 ⟨rfl, gg⟩
    replace E := Lib.hid (E.out.trans gg)
    replace HQ := Lib.hid (HQ.out.ext gg)
    replace HX := Lib.hid (HX.out.ext gg)
    replace HY := Lib.hid (HY.out.ext gg)
    replace RZ := Lib.hid (RZ.out.ext gg)
    replace RA := Lib.hid (RA.out.ext gg)
    replace RB := Lib.hid (RB.out.ext gg)
    replace RC := Lib.hid (RC.out.ext gg)
    replace RF := Lib.hid (RF.out.ext gg)
    replace RP := Lib.hid (RP.out.ext gg)
    replace RM := Lib.hid (RM.out.ext gg)
    replace RG := Lib.hid (RG.out.ext gg)
    replace RW := Lib.hid (RW.out.ext gg)
    replace RH := Lib.hid (RH.out.ext gg)
    replace C0 := Lib.hid (gg.cell (p := ⟨O, 0, none⟩) C0.out)
    replace C1 := Lib.hid (gg.cell (p := ⟨O, 1, none⟩) C1.out)
    clear gg
    have x00 := C0.out
    have x01 := C1.out
    go_wp2_with (fail)
    clear x00 x01
    have H := l_like (some ⟨gM, 0, none⟩) ax N N kM cx _ _ v17 (by omega) (by omega) RM.out.rd HX.out
    rw [U3.out, eqB_self] at H
    refine Calls.mono H ?_
    clear H
    rintro e v18 ⟨rfl, gg⟩
    replace E := Lib.hid (E.out.trans gg)
    replace HQ := Lib.hid (HQ.out.ext gg)
    replace HX := Lib.hid (HX.out.ext gg)
    replace HY := Lib.hid (HY.out.ext gg)
    replace RZ := Lib.hid (RZ.out.ext gg)
    replace RA := Lib.hid (RA.out.ext gg)
    replace RB := Lib.hid (RB.out.ext gg)
    replace RC := Lib.hid (RC.out.ext gg)
    replace RF := Lib.hid (RF.out.ext gg)
    replace RP := Lib.hid (RP.out.ext gg)
    replace RM := Lib.hid (RM.out.ext gg)
    replace RG := Lib.hid (RG.out.ext gg)
    replace RW := Lib.hid (RW.out.ext gg)
    replace RH := Lib.hid (RH.out.ext gg)
    replace C0 := Lib.hid (gg.cell (p := ⟨O, 0, none⟩) C0.out)
    replace C1 := Lib.hid (gg.cell (p := ⟨O, 1, none⟩) C1.out)
    clear gg
    have x00 := C0.out
    have x01 := C1.out
    go_wp2_with (fail)
    clear x00 x01
    have H := l_like (some ⟨gH, 0, none⟩) (some ⟨gW, 0, none⟩) N N kH kW _ _ v18 (by omega) (by omega) RH.out.rd RW.out.rd
    rw [U4.out, eqB_self] at H
    refine Calls.mono H ?_
    clear H
    rintro e v19 ⟨rfl, gg⟩
    replace E := Lib.hid (E.out.trans gg)
    replace HQ := Lib.hid (HQ.out.ext gg)
    replace HX := Lib.hid (HX.out.ext gg)
    replace HY := Lib.hid (HY.out.ext gg)
    replace RZ := Lib.hid (RZ.out.ext gg)
    replace RA := Lib.hid (RA.out.ext gg)
    replace RB := Lib.hid (RB.out.ext gg)
    replace RC := Lib.hid (RC.out.ext gg)
    replace RF := Lib.hid (RF.out.ext gg)
    replace RP := Lib.hid (RP.out.ext gg)
    replace RM := Lib.hid (RM.out.ext gg)
    replace RG := Lib.hid (RG.out.ext gg)
    replace RW := Lib.hid (RW.out.ext gg)
    replace RH := Lib.hid (RH.out.ext gg)
    replace C0 := Lib.hid (gg.cell (p := ⟨O, 0, none⟩) C0.out)
    replace C1 := Lib.hid (gg.cell (p := ⟨O, 1, none⟩) C1.out)
    clear gg
    have x00 := C0.out
    have x01 := C1.out
    go_wp2_with (fail)
    clear x00 x01
    refine Calls.mono (c_ScaleMultivector_ok p a d cap qs _ _ (dualL p qs x) (sqFull p qs) v19 HN.out HSP.out HQ.out RA.out.rd (HDG x).out HQS.out.1 HQS.out.2) ?_
    rintro e v20 ⟨gS, kS, rfl, ho, gg⟩
    have RS := Lib.hid (ho.mono (Nat.zero_le _))
    clear ho
    replace E := Lib.hid (E.out.trans gg)
    replace HQ := Lib.hid (HQ.out.ext gg)
    replace HX := Lib.hid (HX.out.ext gg)
    replace HY := Lib.hid (HY.out.ext gg)
    replace RZ := Lib.hid (RZ.out.ext gg)
    replace RA := Lib.hid (RA.out.ext gg)
    replace RB := Lib.hid (RB.out.ext gg)
    replace RC := Lib.hid (RC.out.ext gg)
    replace RF := Lib.hid (RF.out.ext gg)
    replace RP := Lib.hid (RP.out.ext gg)
    replace RM := Lib.hid (RM.out.ext gg)
    replace RG := Lib.hid (RG.out.ext gg)
    replace RW := Lib.hid (RW.out.ext gg)
    replace RH := Lib.hid (RH.out.ext gg)
    replace C0 := Lib.hid (gg.cell (p := ⟨O, 0, none⟩) C0.out)
    replace C1 := Lib.hid (gg.cell (p := ⟨O, 1, none⟩) C1.out)
    clear gg
    have x00 := C0.out
    have x01 := C1.out
    go_wp2_with (fail)
    clear x00 x01
    refine Calls.mono (l_times5 p a d cap qs _ _ x _ _ (fullL d) v20 HN.out HSP.out HQ.out HX.out RP.out.rd HGX.out HFG.out) ?_
    rintro e v21 ⟨gU, kU, rfl, ho, gg⟩
    have RU := Lib.hid (ho.mono (Nat.zero_le _))
    clear ho
    replace E := Lib.hid (E.out.trans gg)
    replace HQ := Lib.hid (HQ.out.ext gg)
    replace HX := Lib.hid (HX.out.ext gg)
    replace HY := Lib.hid (HY.out.ext gg)
    replace RZ := Lib.hid (RZ.out.ext gg)
    replace RA := Lib.hid (RA.out.ext gg)
    replace RB := Lib.hid (RB.out.ext gg)
    replace RC := Lib.hid (RC.out.ext gg)
    replace RF := Lib.hid (RF.out.ext gg)
    replace RP := Lib.hid (RP.out.ext gg)
    replace RM := Lib.hid (RM.out.ext gg)
    replace RG := Lib.hid (RG.out.ext gg)
    replace RW := Lib.hid (RW.out.ext gg)
    replace RH := Lib.hid (RH.out.ext gg)
    replace RS := Lib.hid (RS.out.ext gg)
    replace C0 := Lib.hid (gg.cell (p := ⟨O, 0, none⟩) C0.out)
    replace C1 := Lib.hid (gg.cell (p := ⟨O, 1, none⟩) C1.out)
    clear gg
    have x00 := C0.out
    have x01 := C1.out
    go_wp2_with (fail)
    clear x00 x01
    have H := l_like (some ⟨gS, 0, none⟩) (some ⟨gU, 0, none⟩) N N kS kU _ _ v21 (by omega) (by omega) RS.out.rd RU.out.rd
    rw [U5.out, eqB_self] at H
    refine Calls.mono H ?_
    clear H
    rintro e v22 ⟨rfl, gg⟩
    replace E := Lib.hid (E.out.trans gg)
    replace HQ := Lib.hid (HQ.out.ext gg)
    replace HX := Lib.hid (HX.out.ext gg)
    replace HY := Lib.hid (HY.out.ext gg)
    replace RZ := Lib.hid (RZ.out.ext gg)
    replace RA := Lib.hid (RA.out.ext gg)
    replace RB := Lib.hid (RB.out.ext gg)
    replace RC := Lib.hid (RC.out.ext gg)
    replace RF := Lib.hid (RF.out.ext gg)
    replace RP := Lib.hid (RP.out.ext gg)
    replace RM := Lib.hid (RM.out.ext gg)
    replace RG := Lib.hid (RG.out.ext gg)
    replace RW := Lib.hid (RW.out.ext gg)
    replace RH := Lib.hid (RH.out.ext gg)
    replace RS := Lib.hid (RS.out.ext gg)
    replace RU := Lib.hid (RU.out.ext gg)
    replace C0 := Lib.hid (gg.cell (p := ⟨O, 0, none⟩) C0.out)
    replace C1 := Lib.hid (gg.cell (p := ⟨O, 1, none⟩) C1.out)
    clear gg
    go_wp2_with (fail)
    go_ret
    exact ⟨rfl, E.out⟩
  · have hsq : sqFull p qs = discL p qs := by rw [HSD.out, HD.out, if_neg hodd]
    rw [decide_eq_false hodd] at hpar
    have hsb : (sqFull p qs != discL p qs) = false := by rw [hsq]; simp
    clear hodd hsq HSD
    have x00 := C0.out
    have x01 := C1.out
    go_wp2_with (fail)
    clear x00 x01
    have H := l_like (some ⟨gB, 0, none⟩) ax N N kB cx _ _ v14 (by omega) (by omega) RB.out.rd HX.out
    rw [U1.out, eqB_self] at H
    refine Calls.mono H ?_
    clear H
    rintro e v15 ⟨rfl, gg⟩
    replace E := Lib.hid (E.out.trans gg)
    replace HQ := Lib.hid (HQ.out.ext gg)
    replace HX := Lib.hid (HX.out.ext gg)
    replace HY := Lib.hid (HY.out.ext gg)
    replace RZ := Lib.hid (RZ.out.ext gg)
    replace RA := Lib.hid (RA.out.ext gg)
    replace RB := Lib.hid (RB.out.ext gg)
    replace RC := Lib.hid (RC.out.ext gg)
    replace RF := Lib.hid (RF.out.ext gg)
    replace RP := Lib.hid (RP.out.ext gg)
    replace RM := Lib.hid (RM.out.ext gg)
    replace RG := Lib.hid (RG.out.ext gg)
    replace RW := Lib.hid (RW.out.ext gg)
    replace RH := Lib.hid (RH.out.ext gg)
    replace C0 := Lib.hid (gg.cell (p := ⟨O, 0, none⟩) C0.out)
    replace C1 := Lib.hid (gg.cell (p := ⟨O, 1, none⟩) C1.out)
    clear gg
    have x00 := C0.out
    have x01 := C1.out
    go_wp2_with (fail)
    clear x00 x01
    have H := l_like (some ⟨gF, 0, none⟩) ax N N kF cx _ _ v15 (by omega) (by omega) RF.out.rd HX.out
    rw [U2.out, eqB_self] at H
    refine Calls.mono H ?_
    clear H
    rintro e v16 ⟨rfl, gg⟩
    replace E := Lib.hid (E.out.trans gg)
    replace HQ := Lib.hid (HQ.out.ext gg)
    replace HX := Lib.hid (HX.out.ext gg)
    replace HY := Lib.hid (HY.out.ext gg)
    replace RZ := Lib.hid (RZ.out.ext gg)
    replace RA := Lib.hid (RA.out.ext gg)
    replace RB := Lib.hid (RB.out.ext gg)
    replace RC := Lib.hid (RC.out.ext gg)
    replace RF := Lib.hid (RF.out.ext gg)
    replace RP := Lib.hid (RP.out.ext gg)
    replace RM := Lib.hid (RM.out.ext gg)
    replace RG := Lib.hid (RG.out.ext gg)
    replace RW := Lib.hid (RW.out.ext gg)
    replace RH := Lib.hid (RH.out.ext gg)
    replace C0 := Lib.hid (gg.cell (p := ⟨O, 0, none⟩) C0.out)
    replace C1 := Lib.hid (gg.cell (p := ⟨O, 1, none⟩) C1.out)
    clear gg
    have x00 := C0.out
    have x01 := C1.out
    go_wp2_with (fail)
    clear x00 x01
    have H := l_like (some ⟨gM, 0, none⟩) ax N N kM cx _ _ v16 (by omega) (by omega) RM.out.rd HX.out
    rw [U3.out, eqB_self] at H
    refine Calls.mono H ?_
    clear H
    rintro e v17 ⟨rfl, gg⟩
    replace E := Lib.hid (E.out.trans gg)
    replace HQ := Lib.hid (HQ.out.ext gg)
    replace HX := Lib.hid (HX.out.ext gg)
    replace HY := Lib.hid (HY.out.ext gg)
    replace RZ := Lib.hid (RZ.out.ext gg)
    replace RA := Lib.hid (RA.out.ext gg)
    replace RB := Lib.hid (RB.out.ext gg)
    replace RC := Lib.hid (RC.out.ext gg)
    replace RF := Lib.hid (RF.out.ext gg)
    replace RP := Lib.hid (RP.out.ext gg)
    replace RM := Lib.hid (RM.out.ext gg)
    replace RG := Lib.hid (RG.out.ext gg)
    replace RW := Lib.hid (RW.out.ext gg)
    replace RH := Lib.hid (RH.out.ext gg)
    replace C0 := Lib.hid (gg.cell (p := ⟨O, 0, none⟩) C0.out)
    replace C1 := Lib.hid (gg.cell (p := ⟨O, 1, none⟩) C1.out)
    clear gg
    have x00 := C0.out
    have x01 := C1.out
    go_wp2_with (fail)
    clear x00 x01
    have H := l_like (some ⟨gH, 0, none⟩) (some ⟨gW, 0, none⟩) N N kH kW _ _ v17 (by omega) (by omega) RH.out.rd RW.out.rd
    rw [U4.out, eqB_self] at H
    refine Calls.mono H ?_
    clear H
    rintro e v18 ⟨rfl, gg⟩
    replace E := Lib.hid (E.out.trans gg)
    replace HQ := Lib.hid (HQ.out.ext gg)
    replace HX := Lib.hid (HX.out.ext gg)
    replace HY := Lib.hid (HY.out.ext gg)
    replace RZ := Lib.hid (RZ.out.ext gg)
    replace RA := Lib.hid (RA.out.ext gg)
    replace RB := Lib.hid (RB.out.ext gg)
    replace RC := Lib.hid (RC.out.ext gg)
    replace RF := Lib.hid (RF.out.ext gg)
    replace RP := Lib.hid (RP.out.ext gg)
    replace RM := Lib.hid (RM.out.ext gg)
    replace RG := Lib.hid (RG.out.ext gg)
    replace RW := Lib.hid (RW.out.ext gg)
    replace RH := Lib.hid (RH.out.ext gg)
    replace C0 := Lib.hid (gg.cell (p := ⟨O, 0, none⟩) C0.out)
    replace C1 := Lib.hid (gg.cell (p := ⟨O, 1, none⟩) C1.out)
    clear gg
    have x00 := C0.out
    have x01 := C1.out
    go_wp2_with (fail)
    clear x00 x01
    refine Calls.mono (c_ScaleMultivector_ok p a d cap qs _ _ (dualL p qs x) (sqFull p qs) v18 HN.out HSP.out HQ.out RA.out.rd (HDG x).out HQS.out.1 HQS.out.2) ?_
    rintro e v19 ⟨gS, kS, rfl, ho, gg⟩
    have RS := Lib.hid (ho.mono (Nat.zero_le _))
    clear ho
    replace E := Lib.hid (E.out.trans gg)
    replace HQ := Lib.hid (HQ.out.ext gg)
    replace HX := Lib.hid (HX.out.ext gg)
    replace HY := Lib.hid (HY.out.ext gg)
    replace RZ := Lib.hid (RZ.out.ext gg)
    replace RA := Lib.hid (RA.out.ext gg)
    replace RB := Lib.hid (RB.out.ext gg)
    replace RC := Lib.hid (RC.out.ext gg)
    replace RF := Lib.hid (RF.out.ext gg)
    replace RP := Lib.hid (RP.out.ext gg)
    replace RM := Lib.hid (RM.out.ext gg)
    replace RG := Lib.hid (RG.out.ext gg)
    replace RW := Lib.hid (RW.out.ext gg)
    replace RH := Lib.hid (RH.out.ext gg)
    replace C0 := Lib.hid (gg.cell (p := ⟨O, 0, none⟩) C0.out)
    replace C1 := Lib.hid (gg.cell (p := ⟨O, 1, none⟩) C1.out)
    clear gg
    have x00 := C0.out
    have x01 := C1.out
    go_wp2_with (fail)
    clear x00 x01
    refine Calls.mono (l_times5 p a d cap qs _ _ x _ _ (fullL d) v19 HN.out HSP.out HQ.out HX.out RP.out.rd HGX.out HFG.out) ?_
    rintro e v20 ⟨gU, kU, rfl, ho, gg⟩
    have RU := Lib.hid (ho.mono (Nat.zero_le _))
    clear ho
    replace E := Lib.hid (E.out.trans gg)
    replace HQ := Lib.hid (HQ.out.ext gg)
    replace HX := Lib.hid (HX.out.ext gg)
    replace HY := Lib.hid (HY.out.ext gg)
    replace RZ := Lib.hid (RZ.out.ext gg)
    replace RA := Lib.hid (RA.out.ext gg)
    replace RB := Lib.hid (RB.out.ext gg)
    replace RC := Lib.hid (RC.out.ext gg)
    replace RF := Lib.hid (RF.out.ext gg)
    replace RP := Lib.hid (RP.out.ext gg)
    replace RM := Lib.hid (RM.out.ext gg)
    replace RG := Lib.hid (RG.out.ext gg)
    replace RW := Lib.hid (RW.out.ext gg)
    replace RH := Lib.hid (RH.out.ext gg)
    replace RS := Lib.hid (RS.out.ext gg)
    replace C0 := Lib.hid (gg.cell (p := ⟨O, 0, none⟩) C0.out)
    replace C1 := Lib.hid (gg.cell (p := ⟨O, 1, none⟩) C1.out)
    clear gg
    have x00 := C0.out
    have x01 := C1.out
    go_wp2_with (fail)
    clear x00 x01
    have H := l_like (some ⟨gS, 0, none⟩) (some ⟨gU, 0, none⟩) N N kS kU _ _ v20 (by omega) (by omega) RS.out.rd RU.out.rd
    rw [U5.out, eqB_self] at H
    refine Calls.mono H ?_
    clear H
    rintro e v21 ⟨rfl, gg⟩
    replace E := Lib.hid (E.out.trans gg)
    replace HQ := Lib.hid (HQ.out.ext gg)
    replace HX := Lib.hid (HX.out.ext gg)
    replace HY := Lib.hid (HY.out.ext gg)
    replace RZ := Lib.hid (RZ.out.ext gg)
    replace RA := Lib.hid (RA.out.ext gg)
    replace RB := Lib.hid (RB.out.ext gg)
    replace RC := Lib.hid (RC.out.ext gg)
    replace RF := Lib.hid (RF.out.ext gg)
    replace RP := Lib.hid (RP.out.ext gg)
    replace RM := Lib.hid (RM.out.ext gg)
    replace RG := Lib.hid (RG.out.ext gg)
    replace RW := Lib.hid (RW.out.ext gg)
    replace RH := Lib.hid (RH.out.ext gg)
    replace RS := Lib.hid (RS.out.ext gg)
    replace RU := Lib.hid (RU.out.ext gg)
    replace C0 := Lib.hid (gg.cell (p := ⟨O, 0, none⟩) C0.out)
    replace C1 := Lib.hid (gg.cell (p := ⟨O, 1, none⟩) C1.out)
    clear gg
    go_wp2_with (fail)
    go_ret
    exact ⟨rfl, E.out⟩
end Go.Proofs.Ytbgnfjckbjmgbaa
