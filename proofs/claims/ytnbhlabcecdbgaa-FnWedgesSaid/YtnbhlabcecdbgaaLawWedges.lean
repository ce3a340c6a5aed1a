/-
  The law FnWedges returns true.
  No condition.
-/
import Derived.Test.YtnbhlabcecdbgaaPart5
import Derived.Test.YtnbhlabcecdbgaaPart7
import Derived.Test.YtnbhlabcecdbgaaPart8
namespace Go.Proofs.Ytnbhlabcecdbgaa
set_option maxRecDepth 100000
open Go.RowKit

/-- The product of vectors is 0 exactly if they are dependent, as numbers and truths. -/
theorem dep_zero {p : Int} {qs : List Int} {rows : List (List Int)} {n : Nat} (hp : primeB p = true) (hd : qs.length ≤ 6) (hr : RowsG p qs.length rows) (hn : rows.length = n) : decide (rankL p qs.length rows < n) = zeroZ (wedgeL p qs rows n) (2 ^ qs.length) := by
  have hpb := prime_bd hp
  have h := wd_rank hp hd hr
  have hg := wd_good (p := p) (qs := qs) (rows := rows) (by omega) rows.length
  rw [← hn]
  unfold zeroZ
  refine decide_eq_decide.2 (h.symm.trans ⟨fun he i hi => ?_, fun hz => ?_⟩)
  · show nth (wdS p qs rows rows.length) i = 0
    rw [he, nil_nth hi]
  · refine ext_nth (by rw [hg.1, nil_len]) fun i hi => ?_
    rw [hg.1] at hi
    rw [nil_nth hi]; exact hz i hi
theorem zero_nil {qs : List Int} : zeroZ (nilL qs) (2 ^ qs.length) = true := by
  unfold zeroZ
  exact decide_eq_true fun i hi => nil_nth hi
theorem swap_codeVR {p : Int} {qs : List Int} {rows : List (List Int)} (h : codeVR p qs rows = 0) (h2 : 2 ≤ rows.length) : codeVR p qs (swapL rows 0 1) = 0 := by
  obtain ⟨hs, ha, hl⟩ := codeVR_zero h
  have hall : (swapL rows 0 1).all (vecB p qs.length) = true := by
    refine List.all_eq_true.2 fun r hr => ?_
    have hm : ∀ i, i < rows.length → vecB p qs.length (nthR rows i) = true := fun i hi => List.all_eq_true.1 ha _ (by rw [nthR_eq hi]; exact List.getElem_mem hi)
    obtain ⟨j, hj, rfl⟩ := List.getElem_of_mem hr
    have hj' : j < rows.length := by rw [swapL_len] at hj; exact hj
    rw [← nthR_eq hj, swapL_nth (by omega) (by omega)]
    split
    · exact hm 0 (by omega)
    · split
      · exact hm 1 (by omega)
      · exact hm j hj'
  rw [codeVR_of hs, hall, swapL_len, decide_eq_true hl]; rfl

set_option maxHeartbeats 32000000 in
set_option maxRecDepth 100000 in
theorem law_Wedges (w : World) (ac : Option Addr) (nc cc : Nat) (hb : RdY w ac nc) :
    Calls Try.prog 3 #[.slice ac nc cc] w fun e w' => e = .returned (.bool true) ∧ Ext w w' := by
  have HB := Lib.hid hb
  clear hb
  go_enter Try.func3, Try.ntmps3
  go_wp2_with (fail)
  refine Calls.mono (l_big ac nc cc w) ?_
  rintro e w1 ⟨rfl, g0⟩
  have E := Lib.hid g0
  by_cases hbig : 4096 < nc
  · have hbb : decide (4096 < nc) = true := by simp [hbig]
    rw [hbb]
    go_wp2_with (fail)
    go_ret
    exact ⟨rfl, E.out⟩
  have hbb : decide (4096 < nc) = false := by simp [hbig]
  rw [hbb]
  clear g0 hbb
  go_wp2_with (fail)
  refine Calls.mono (s_drawWedgeProduct ac nc cc w1 (by omega) (HB.out.ext E.out)) ?_
  rintro e w2 ⟨p, a, d, cap, qs, ax, nx, cx, x, ay, ny, cy, y, rfl, hp0, hp1, hd, hnx, hny, hq, hx, hy, g1⟩
  have E1 := Lib.hid g1
  replace E := Lib.hid (E.out.trans g1)
  have HQ := Lib.hid hq.rd
  have HX := Lib.hid hx.rd
  have HY := Lib.hid hy.rd
  clear hq hx hy g1
  go_wp2_with (fail)
  obtain ⟨O, hO⟩ : ∃ O, O = w2.heap.size := ⟨_, rfl⟩
  obtain ⟨W, hW⟩ : ∃ W, W = w2.alloc (.cells #[.int .i64 p, .slice a d cap] 26) := ⟨_, rfl⟩
  have C0 := Lib.hid (show W.cell? ⟨O, 0, none⟩ = some (.int .i64 p) by rw [hW, hO]; simp)
  have C1 := Lib.hid (show W.cell? ⟨O, 1, none⟩ = some (.slice a d cap) by rw [hW, hO]; simp)
  have gg : Ext w2 W := by rw [hW]; exact ext_alloc _ _
  rw [← hO, ← hW]
  clear hO hW E1
  replace E := Lib.hid (E.out.trans gg)
  replace HQ := Lib.hid (HQ.out.ext gg)
  replace HX := Lib.hid (HX.out.ext gg)
  replace HY := Lib.hid (HY.out.ext gg)
  clear gg
  by_cases hc : codeM p qs [x, y] ≠ 0
  · skip
    have HCM := Lib.hid hc
    obtain ⟨cm, hcm0⟩ : ∃ z, z = codeM p qs [x, y] := ⟨_, rfl⟩
    have HCC0 := Lib.hid hcm0
    have hmb : (cm == 0) = false := by rw [hcm0]; simp [hc]
    clear hc hcm0
    have x00 := C0.out
    have x01 := C1.out
    go_wp2_with (fail)
    clear x00 x01
    refine Calls.mono (c_WedgeProduct_bad p a d cap qs ax nx cx x ay ny cy y W (by omega) (by omega) (by omega) HQ.out HX.out HY.out HCM.out) ?_
    rintro e v1 ⟨rZ, kZ, rfl, ho, gg⟩
    have RZ := Lib.hid (ho.mono (Nat.zero_le _))
    clear ho
    replace E := Lib.hid (E.out.trans gg)
    replace HQ := Lib.hid (HQ.out.ext gg)
    replace HX := Lib.hid (HX.out.ext gg)
    replace HY := Lib.hid (HY.out.ext gg)
    replace C0 := Lib.hid (gg.cell (p := ⟨O, 0, none⟩) C0.out)
    replace C1 := Lib.hid (gg.cell (p := ⟨O, 1, none⟩) C1.out)
    clear gg
    rw [← HCC0.out]
    have x00 := C0.out
    have x01 := C1.out
    go_wp2_with (fail)
    clear x00 x01
    refine Calls.mono (s_WedgeProduct_bad p a d cap qs ax nx cx x ay ny cy y v1 (by omega) (by omega) (by omega) HQ.out HX.out HY.out HCM.out) ?_
    rintro e v2 ⟨rT, kT, rfl, ho, gg⟩
    have RT := Lib.hid (ho.mono (Nat.zero_le _))
    clear ho
    replace E := Lib.hid (E.out.trans gg)
    replace HQ := Lib.hid (HQ.out.ext gg)
    replace HX := Lib.hid (HX.out.ext gg)
    replace HY := Lib.hid (HY.out.ext gg)
    replace RZ := Lib.hid (RZ.out.ext gg)
    replace C0 := Lib.hid (gg.cell (p := ⟨O, 0, none⟩) C0.out)
    replace C1 := Lib.hid (gg.cell (p := ⟨O, 1, none⟩) C1.out)
    clear gg
    rw [← HCC0.out]
    have x00 := C0.out
    have x01 := C1.out
    go_wp2_with (fail)
    clear x00 x01
    have H := l_like rZ rT 0 0 kZ kT _ _ v2 (by omega) (by omega) RZ.out.rd RT.out.rd
    rw [eqB_self] at H
    refine Calls.mono H ?_
    clear H
    rintro e v3 ⟨rfl, gg⟩
    replace E := Lib.hid (E.out.trans gg)
    replace HQ := Lib.hid (HQ.out.ext gg)
    replace HX := Lib.hid (HX.out.ext gg)
    replace HY := Lib.hid (HY.out.ext gg)
    replace RZ := Lib.hid (RZ.out.ext gg)
    replace RT := Lib.hid (RT.out.ext gg)
    replace C0 := Lib.hid (gg.cell (p := ⟨O, 0, none⟩) C0.out)
    replace C1 := Lib.hid (gg.cell (p := ⟨O, 1, none⟩) C1.out)
    clear gg
    have x00 := C0.out
    have x01 := C1.out
    go_wp2_with (fail)
    clear x00 x01
    refine Calls.mono (s_drawWedgeOfVectors ac nc cc v3 (by omega) (HB.out.ext E.out)) ?_
    rintro e v4 ⟨pt, at_, dt, ct, qt, al, nl, cl, rl, rfl, ht0, ht1, htd, hnl, hll, hqt, hrl, gg⟩
    have HQT := Lib.hid hqt.rd
    have OL := Lib.hid hrl
    have HLL := Lib.hid (show ∀ i, i < nl → (nthR rl i).length ≤ 4194304 from fun i hi => by have := hll i hi; omega)
    replace E := Lib.hid (E.out.trans gg)
    clear gg hqt hrl hll
    go_wp2_with (fail)
    obtain ⟨O2, hO2⟩ : ∃ O, O = v4.heap.size := ⟨_, rfl⟩
    obtain ⟨W2, hW2⟩ : ∃ W, W = v4.alloc (.cells #[.int .i64 pt, .slice at_ dt ct] 26) := ⟨_, rfl⟩
    have D0 := Lib.hid (show W2.cell? ⟨O2, 0, none⟩ = some (.int .i64 pt) by rw [hW2, hO2]; simp)
    have D1 := Lib.hid (show W2.cell? ⟨O2, 1, none⟩ = some (.slice at_ dt ct) by rw [hW2, hO2]; simp)
    have gg : Ext v4 W2 := by rw [hW2]; exact ext_alloc _ _
    rw [← hO2, ← hW2]
    clear hO2 hW2
    replace E := Lib.hid (E.out.trans gg)
    replace HQT := Lib.hid (HQT.out.ext gg)
    replace OL := Lib.hid (OL.out.ext gg)
    clear gg
    by_cases hcv : codeVR pt qt rl ≠ 0
    · skip
      have HCV := Lib.hid hcv
      obtain ⟨cv, hcv0⟩ : ∃ z, z = codeVR pt qt rl := ⟨_, rfl⟩
      have HCC := Lib.hid hcv0
      have hvb : (cv != 0) = true := by rw [hcv0]; simp [hcv]
      clear hcv hcv0
      refine Calls.mono (c_WedgeOfVectors_bad pt at_ dt ct qt al nl cl rl W2 (by omega) (by omega) HLL.out HQT.out OL.out.rd HCV.out) ?_
      rintro e v5 ⟨rB1, kB1, rfl, ho, gg⟩
      have RB1 := Lib.hid (ho.mono (Nat.zero_le _))
      clear ho
      replace E := Lib.hid (E.out.trans gg)
      replace HQT := Lib.hid (HQT.out.ext gg)
      replace OL := Lib.hid (OL.out.ext gg)
      replace D0 := Lib.hid (gg.cell (p := ⟨O2, 0, none⟩) D0.out)
      replace D1 := Lib.hid (gg.cell (p := ⟨O2, 1, none⟩) D1.out)
      clear gg
      rw [← HCC.out]
      have x00 := D0.out
      have x01 := D1.out
      go_wp2_with (fail)
      clear x00 x01
      refine Calls.mono (s_WedgeOfVectors_bad pt at_ dt ct qt al nl cl rl v5 (by omega) (by omega) HLL.out HQT.out OL.out.rd HCV.out) ?_
      rintro e v6 ⟨rB2, kB2, rfl, ho, gg⟩
      have RB2 := Lib.hid (ho.mono (Nat.zero_le _))
      clear ho
      replace E := Lib.hid (E.out.trans gg)
      replace HQT := Lib.hid (HQT.out.ext gg)
      replace OL := Lib.hid (OL.out.ext gg)
      replace RB1 := Lib.hid (RB1.out.ext gg)
      replace D0 := Lib.hid (gg.cell (p := ⟨O2, 0, none⟩) D0.out)
      replace D1 := Lib.hid (gg.cell (p := ⟨O2, 1, none⟩) D1.out)
      clear gg
      rw [← HCC.out]
      have x00 := D0.out
      have x01 := D1.out
      go_wp2_with (fail)
      clear x00 x01
      refine Calls.mono (c_AreDependent_bad pt at_ dt ct qt al nl cl rl v6 (by omega) (by omega) HLL.out HQT.out OL.out.rd HCV.out) ?_
      rintro e v7 ⟨rfl, gg⟩
      replace E := Lib.hid (E.out.trans gg)
      replace HQT := Lib.hid (HQT.out.ext gg)
      replace OL := Lib.hid (OL.out.ext gg)
      replace RB1 := Lib.hid (RB1.out.ext gg)
      replace RB2 := Lib.hid (RB2.out.ext gg)
      replace D0 := Lib.hid (gg.cell (p := ⟨O2, 0, none⟩) D0.out)
      replace D1 := Lib.hid (gg.cell (p := ⟨O2, 1, none⟩) D1.out)
      clear gg
      rw [← HCC.out]
      have x00 := D0.out
      have x01 := D1.out
      go_wp2_with (fail)
      clear x00 x01
      have H := l_like rB1 rB2 0 0 kB1 kB2 _ _ v7 (by omega) (by omega) RB1.out.rd RB2.out.rd
      rw [eqB_self] at H
      refine Calls.mono H ?_
      clear H
      rintro e v8 ⟨rfl, gg⟩
      replace E := Lib.hid (E.out.trans gg)
      replace HQT := Lib.hid (HQT.out.ext gg)
      replace OL := Lib.hid (OL.out.ext gg)
      replace RB1 := Lib.hid (RB1.out.ext gg)
      replace RB2 := Lib.hid (RB2.out.ext gg)
      replace D0 := Lib.hid (gg.cell (p := ⟨O2, 0, none⟩) D0.out)
      replace D1 := Lib.hid (gg.cell (p := ⟨O2, 1, none⟩) D1.out)
      clear gg
      go_wp2_with (fail)
      go_ret
      exact ⟨rfl, E.out⟩
    replace hcv : codeVR pt qt rl = 0 := by simpa using hcv
    have HCV := Lib.hid hcv
    obtain ⟨hst, hat, hl16⟩ := codeVR_zero hcv
    obtain ⟨hpt, hd1t, hd6t, hqbt⟩ := space_of hst
    have hptb := prime_bd hpt
    have hqd := HQT.out.1
    have hrln := OL.out.1
    have HPT := Lib.hid hpt
    have HGQ := Lib.hid (rows_good hat)
    have HGT := Lib.hid (show RowsG pt dt rl by rw [← hqd]; exact rows_good hat)
    have HGT' := Lib.hid (show ∀ i, i < nl → Good pt dt (nthR rl i) from fun i hi => HGT.out i (by omega))
    obtain ⟨M, hM⟩ : ∃ M, M = 2 ^ dt := ⟨_, rfl⟩
    have HM := Lib.hid hM
    have hM6 : M ≤ 64 := by rw [hM]; exact pow_le64 (by omega)
    have hM1 : 1 ≤ M := by rw [hM]; exact pow_pos' dt
    obtain ⟨M1, hMM⟩ : ∃ M1, M = M1 + 1 := ⟨M - 1, by omega⟩
    have hwM : IntKind.i64.wrap ((M : Int) - 1) = (M1 : Int) := by rw [IntWalk.i64_in _ (by omega)]; omega
    have hvM : wrap64 ((M : Int) - 1) = (M1 : Int) := by unfold wrap64; omega
    have hiM : (M1 : Int) < (M : Int) := by omega
    have HWM := Lib.hid hwM
    have HVM := Lib.hid hvM
    clear hwM hvM
    have hjM : (0 : Int) < (M : Int) := by omega
    have HDZ := Lib.hid (show decide (rankL pt dt rl < nl) = zeroZ (wedgeL pt qt rl nl) M by rw [hM, ← hqd]; exact dep_zero hpt (by omega) HGQ.out hrln)
    have HDV := Lib.hid (show nl = dt → nth (wedgeL pt qt rl nl) M1 = detL pt nl rl from fun h => by
      have h9 := wd_det (qs := qt) hpt (by omega) HGQ.out (by omega)
      rw [hrln, hqd, ← hM, show M - 1 = M1 by omega] at h9
      subst h
      exact h9)
    have HGW := Lib.hid (show ∀ r, Good pt M (wedgeL pt qt r nl) from fun r => by rw [hM, ← hqd]; exact prodS_good (by omega) nl)
    clear hcv hst hat hpt hqbt hM hMM
    have HW1 := c_WedgeOfVectors_ok pt at_ dt ct qt al nl cl rl W2 (by omega) (by omega) HLL.out HQT.out OL.out.rd HCV.out
    rw [← HM.out] at HW1
    refine Calls.mono (HW1) ?_
    rintro e v5 ⟨rW1, kW1, rfl, ho, gg⟩
    have RW1 := Lib.hid (ho.mono (Nat.zero_le _))
    clear ho
    replace E := Lib.hid (E.out.trans gg)
    replace HQT := Lib.hid (HQT.out.ext gg)
    replace OL := Lib.hid (OL.out.ext gg)
    replace D0 := Lib.hid (gg.cell (p := ⟨O2, 0, none⟩) D0.out)
    replace D1 := Lib.hid (gg.cell (p := ⟨O2, 1, none⟩) D1.out)
    clear gg
    clear HW1
    obtain ⟨gW1, rfl⟩ := RW1.out.addr (by omega)
    have x00 := D0.out
    have x01 := D1.out
    go_wp2_with (fail)
    clear x00 x01
    have HW2 := s_WedgeOfVectors_ok pt at_ dt ct qt al nl cl rl v5 (by omega) (by omega) HLL.out HQT.out OL.out.rd HCV.out
    rw [← HM.out] at HW2
    refine Calls.mono (HW2) ?_
    rintro e v6 ⟨rW2, kW2, rfl, ho, gg⟩
    have RW2 := Lib.hid (ho.mono (Nat.zero_le _))
    clear ho
    replace E := Lib.hid (E.out.trans gg)
    replace HQT := Lib.hid (HQT.out.ext gg)
    replace OL := Lib.hid (OL.out.ext gg)
    replace RW1 := Lib.hid (RW1.out.ext gg)
    replace D0 := Lib.hid (gg.cell (p := ⟨O2, 0, none⟩) D0.out)
    replace D1 := Lib.hid (gg.cell (p := ⟨O2, 1, none⟩) D1.out)
    clear gg
    clear HW2
    obtain ⟨gW2, rfl⟩ := RW2.out.addr (by omega)
    have x00 := D0.out
    have x01 := D1.out
    go_wp2_with (fail)
    clear x00 x01
    refine Calls.mono (c_AreDependent_ok pt at_ dt ct qt al nl cl rl v6 (by omega) (by omega) HLL.out HQT.out OL.out.rd HCV.out) ?_
    rintro e v7 ⟨rfl, gg⟩
    replace E := Lib.hid (E.out.trans gg)
    replace HQT := Lib.hid (HQT.out.ext gg)
    replace OL := Lib.hid (OL.out.ext gg)
    replace RW1 := Lib.hid (RW1.out.ext gg)
    replace RW2 := Lib.hid (RW2.out.ext gg)
    replace D0 := Lib.hid (gg.cell (p := ⟨O2, 0, none⟩) D0.out)
    replace D1 := Lib.hid (gg.cell (p := ⟨O2, 1, none⟩) D1.out)
    clear gg
    rw [HDZ.out]
    obtain ⟨bz, hbz⟩ : ∃ z, z = zeroZ (wedgeL pt qt rl nl) M := ⟨_, rfl⟩
    have HBZ := Lib.hid hbz
    rw [← hbz]
    clear hbz
    have x00 := D0.out
    have x01 := D1.out
    go_wp2_with (fail)
    clear x00 x01
    have H := l_like (some ⟨gW1, 0, none⟩) (some ⟨gW2, 0, none⟩) M M kW1 kW2 _ _ v7 (by omega) (by omega) RW1.out.rd RW2.out.rd
    rw [eqB_self] at H
    refine Calls.mono H ?_
    clear H
    rintro e v8 ⟨rfl, gg⟩
    replace E := Lib.hid (E.out.trans gg)
    replace HQT := Lib.hid (HQT.out.ext gg)
    replace OL := Lib.hid (OL.out.ext gg)
    replace RW1 := Lib.hid (RW1.out.ext gg)
    replace RW2 := Lib.hid (RW2.out.ext gg)
    replace D0 := Lib.hid (gg.cell (p := ⟨O2, 0, none⟩) D0.out)
    replace D1 := Lib.hid (gg.cell (p := ⟨O2, 1, none⟩) D1.out)
    clear gg
    clear RW2
    have x00 := D0.out
    have x01 := D1.out
    go_wp2_with (fail)
    clear x00 x01
    refine Calls.mono (l_zero5 _ M _ (wedgeL pt qt rl nl) v8 (by omega) RW1.out.rd) ?_
    rintro e v9 ⟨rfl, gg⟩
    replace E := Lib.hid (E.out.trans gg)
    replace HQT := Lib.hid (HQT.out.ext gg)
    replace OL := Lib.hid (OL.out.ext gg)
    replace RW1 := Lib.hid (RW1.out.ext gg)
    replace D0 := Lib.hid (gg.cell (p := ⟨O2, 0, none⟩) D0.out)
    replace D1 := Lib.hid (gg.cell (p := ⟨O2, 1, none⟩) D1.out)
    clear gg
    rw [← HBZ.out]
    have hbb : (bz != bz) = false := by cases bz <;> rfl
    by_cases h1n : 1 < nl
    rotate_left
    · skip
      have h1i : ¬ (1 : Int) < (nl : Int) := by omega
      by_cases hnd : nl = dt
      rotate_left
      · skip
        have hnb : ((nl : Int) != (dt : Int)) = true := by simp; omega
        have x00 := D0.out
        have x01 := D1.out
        go_wp2_with (fail)
        clear x00 x01
        refine Calls.mono (c_VolumeOf_no pt at_ dt ct qt _ nl cl rl v9 (by omega) (by omega) HLL.out HQT.out OL.out.rd HCV.out hnd) ?_
        rintro e v10 ⟨rfl, gg⟩
        replace E := Lib.hid (E.out.trans gg)
        replace HQT := Lib.hid (HQT.out.ext gg)
        replace OL := Lib.hid (OL.out.ext gg)
        replace RW1 := Lib.hid (RW1.out.ext gg)
        replace D0 := Lib.hid (gg.cell (p := ⟨O2, 0, none⟩) D0.out)
        replace D1 := Lib.hid (gg.cell (p := ⟨O2, 1, none⟩) D1.out)
        clear gg
        have x00 := D0.out
        have x01 := D1.out
        go_wp2_with (fail)
        clear x00 x01
        go_ret
        exact ⟨rfl, E.out⟩
      subst hnd
      have hnb : ((nl : Int) != (nl : Int)) = false := by simp
      have x00 := D0.out
      have x01 := D1.out
      go_wp2_with (fail)
      clear x00 x01
      refine Calls.mono (c_VolumeOf_ok pt at_ nl ct qt _ cl rl v9 (by omega) HLL.out HQT.out OL.out.rd HCV.out) ?_
      rintro e v10 ⟨rfl, gg⟩
      replace E := Lib.hid (E.out.trans gg)
      replace HQT := Lib.hid (HQT.out.ext gg)
      replace OL := Lib.hid (OL.out.ext gg)
      replace RW1 := Lib.hid (RW1.out.ext gg)
      replace D0 := Lib.hid (gg.cell (p := ⟨O2, 0, none⟩) D0.out)
      replace D1 := Lib.hid (gg.cell (p := ⟨O2, 1, none⟩) D1.out)
      clear gg
      have hdv := HDV.out (by first | exact rfl | trivial)
      obtain ⟨dv, hdv0⟩ : ∃ z, z = detL pt nl rl := ⟨_, rfl⟩
      have HDE := Lib.hid hdv0
      rw [← hdv0]
      rw [← hdv0] at hdv
      clear hdv0
      have x00 := D0.out
      have x01 := D1.out
      go_wp2_with (fail)
      clear x00 x01
      refine Calls.mono (c_Determinant_ok pt _ nl cl rl v10 HPT.out (by omega) (by omega) OL.out.rd HGT'.out) ?_
      rintro e v11 ⟨rfl, gg⟩
      replace E := Lib.hid (E.out.trans gg)
      replace HQT := Lib.hid (HQT.out.ext gg)
      replace OL := Lib.hid (OL.out.ext gg)
      replace RW1 := Lib.hid (RW1.out.ext gg)
      replace D0 := Lib.hid (gg.cell (p := ⟨O2, 0, none⟩) D0.out)
      replace D1 := Lib.hid (gg.cell (p := ⟨O2, 1, none⟩) D1.out)
      clear gg
      rw [← HDE.out]
      have hcz := RW1.out.cell (j := M1) (by omega)
      rw [hdv] at hcz
      have hwM := HWM.out
      have hvM := HVM.out
      have x00 := D0.out
      have x01 := D1.out
      go_wp2_with (fail)
      clear x00 x01
      go_wp2_with (fail)
      go_ret
      exact ⟨rfl, E.out⟩
    have h1i : (1 : Int) < (nl : Int) := by omega
    have h0i : (0 : Int) < (nl : Int) := by omega
    have h0n : 0 < nl := by omega
    have h2i : (2 : Int) ≤ (nl : Int) := by omega
    have h2n : 2 ≤ nl := by omega
    have hcle := OL.out.capLe
    have hcli : (nl : Int) ≤ (cl : Int) := by omega
    have h2c : 2 ≤ cl := by omega
    obtain ⟨gl, _, rfl, _⟩ := OL.out.row (by omega)
    obtain ⟨b0, cb0, hk0, _⟩ := OL.out.at (i := 0) (by omega)
    obtain ⟨b1, cb1, hk1, _⟩ := OL.out.at (i := 1) (by omega)
    have K0 := Lib.hid hk0
    have K1 := Lib.hid hk1
    clear hk0 hk1
    have x00 := D0.out
    have x01 := D1.out
    go_wp2_with (fail)
    clear x00 x01
    obtain ⟨q, hqe, hqo⟩ : ∃ q, (if cl = 2 then some (⟨gl, 0, none⟩ : Addr) else some ⟨gl, 2, none⟩) = some ⟨gl, q, none⟩ ∧ (q = 2 ∨ nl = 2) := by
      by_cases h : cl = 2
      · exact ⟨0, by rw [if_pos h], .inr (by omega)⟩
      · exact ⟨2, by rw [if_neg h], .inl rfl⟩
    replace K0 := Lib.hid ((ext_drew v9).cell K0.out)
    replace K1 := Lib.hid ((ext_drew v9).cell K1.out)
    have HCS := Lib.hid (swap_codeVR HCV.out (by omega))
    have HLS := Lib.hid (show ∀ i, i < nl → (nthR (swapL rl 0 1) i).length ≤ 4194304 from fun i hi => by
      rw [swapL_nth (by omega) (by omega)]
      split
      · exact HLL.out 0 (by omega)
      · split
        · exact HLL.out 1 (by omega)
        · exact HLL.out i hi)
    have HZT := Lib.hid (show zeroZ (plusL pt (wedgeL pt qt (swapL rl 0 1) nl) (wedgeL pt qt rl nl) 1 M) M = true by
      have h9 := wd_swap (qs := qt) (rows := rl) (i := 0) (j := 1) HPT.out (by omega) HGQ.out.len (by decide) (by omega) (by omega)
      rw [hrln] at h9
      rw [HM.out, ← hqd]
      show zeroZ (plusL pt (wdS pt qt (swapL rl 0 1) nl) (wdS pt qt rl nl) 1 (2 ^ qt.length)) (2 ^ qt.length) = true
      rw [h9]; exact zero_nil)
    replace E := Lib.hid (E.out.trans (ext_drew v9))
    replace HQT := Lib.hid (HQT.out.ext (ext_drew v9))
    replace OL := Lib.hid (OL.out.ext (ext_drew v9))
    replace RW1 := Lib.hid (RW1.out.ext (ext_drew v9))
    replace D0 := Lib.hid ((ext_drew v9).cell (p := ⟨O2, 0, none⟩) D0.out)
    replace D1 := Lib.hid ((ext_drew v9).cell (p := ⟨O2, 1, none⟩) D1.out)
    refine wp_region_lex_tail 9 [(6, .lit2 v9.drew.heap.size (.slice b1 (nthR rl 1).length cb1) (.slice b0 (nthR rl 0).length cb0))] (by kernel_rfl) (by kernel_rfl) ?_
    simp only [List.take, List.drop]
    (refine LexW.pure (v := ?_) rfl rfl (fun w1 he => ?_) ?_; rotate_left; ( have x00 := (he.cell (p := ⟨O2, 0, none⟩) D0.out); have x01 := (he.cell (p := ⟨O2, 1, none⟩) D1.out); have y0 := he.cell K0.out; have y1 := he.cell K1.out; go_simp; rfl); simp only [Act.put, List.setIfInBounds_toArray, List.set_cons_zero, List.set_cons_succ])
    (refine LexW.pure (v := ?_) rfl rfl (fun w1 he => ?_) ?_; rotate_left; ( have x00 := (he.cell (p := ⟨O2, 0, none⟩) D0.out); have x01 := (he.cell (p := ⟨O2, 1, none⟩) D1.out); have y0 := he.cell K0.out; have y1 := he.cell K1.out; go_simp; rfl); simp only [Act.put, List.setIfInBounds_toArray, List.set_cons_zero, List.set_cons_succ])
    (refine LexW.pure (v := ?_) rfl rfl (fun w1 he => ?_) ?_; rotate_left; ( have x00 := (he.cell (p := ⟨O2, 0, none⟩) D0.out); have x01 := (he.cell (p := ⟨O2, 1, none⟩) D1.out); have y0 := he.cell K0.out; have y1 := he.cell K1.out; go_simp; rfl); simp only [Act.put, List.setIfInBounds_toArray, List.set_cons_zero, List.set_cons_succ])
    (refine LexW.pure (v := ?_) rfl rfl (fun w1 he => ?_) ?_; rotate_left; ( have x00 := (he.cell (p := ⟨O2, 0, none⟩) D0.out); have x01 := (he.cell (p := ⟨O2, 1, none⟩) D1.out); have y0 := he.cell K0.out; have y1 := he.cell K1.out; go_simp; rfl); simp only [Act.put, List.setIfInBounds_toArray, List.set_cons_zero, List.set_cons_succ])
    (refine LexW.pure (v := ?_) rfl rfl (fun w1 he => ?_) ?_; rotate_left; ( have x00 := (he.cell (p := ⟨O2, 0, none⟩) D0.out); have x01 := (he.cell (p := ⟨O2, 1, none⟩) D1.out); have y0 := he.cell K0.out; have y1 := he.cell K1.out; go_simp; rfl); simp only [Act.put, List.setIfInBounds_toArray, List.set_cons_zero, List.set_cons_succ])
    (refine LexW.pure (v := ?_) rfl rfl (fun w1 he => ?_) ?_; rotate_left; ( have x00 := (he.cell (p := ⟨O2, 0, none⟩) D0.out); have x01 := (he.cell (p := ⟨O2, 1, none⟩) D1.out); have y0 := he.cell K0.out; have y1 := he.cell K1.out; go_simp; rfl); simp only [Act.put, List.setIfInBounds_toArray, List.set_cons_zero, List.set_cons_succ])
    (refine LexW.rel rfl rfl (fun w1 he hdep => ?_) (fun v hv => ?_); ( exact ⟨.slice (some ⟨w1.heap.size, 0, none⟩) 2 2, w1.alloc (.cells #[.slice b1 (nthR rl 1).length cb1, .slice b0 (nthR rl 0).length cb0] 24), (by go_simp), ext_alloc _ _, _, rfl, lit2_new _ _ _ he.size⟩); simp only [Act.put, List.setIfInBounds_toArray, List.set_cons_zero, List.set_cons_succ])
    obtain ⟨_, gL, rfl, _⟩ := hv
    (refine LexW.pure (v := ?_) rfl rfl (fun w1 he => ?_) ?_; rotate_left; ( have x00 := (he.cell (p := ⟨O2, 0, none⟩) D0.out); have x01 := (he.cell (p := ⟨O2, 1, none⟩) D1.out); have y0 := he.cell K0.out; have y1 := he.cell K1.out; go_simp; rfl); simp only [Act.put, List.setIfInBounds_toArray, List.set_cons_zero, List.set_cons_succ])
    (refine LexW.pure (v := ?_) rfl rfl (fun w1 he => ?_) ?_; rotate_left; ( have x00 := (he.cell (p := ⟨O2, 0, none⟩) D0.out); have x01 := (he.cell (p := ⟨O2, 1, none⟩) D1.out); have y0 := he.cell K0.out; have y1 := he.cell K1.out; go_simp; rfl); simp only [Act.put, List.setIfInBounds_toArray, List.set_cons_zero, List.set_cons_succ])
    refine LexW.nil (fun w3 he hkn => ?_)
    have HE := Lib.hid he
    have RLIT := Lib.hid (show w3.ownsRow v9.drew.heap.size 24 1 (.slice (some ⟨gL, 0, none⟩) 2 2) 2 [.slice b1 (nthR rl 1).length cb1, .slice b0 (nthR rl 0).length cb0] by obtain ⟨_, q, r⟩ : (SPred.lit2 v9.drew.heap.size (.slice b1 (nthR rl 1).length cb1) (.slice b0 (nthR rl 0).length cb0)).holds (.slice (some ⟨gL, 0, none⟩) 2 2) w3 := hkn (6, _) (by simp); cases q; exact r)
    clear he hkn 
    go_wp2_with (at_builtin; refine wpList_turned (v := v9.drew) rfl (.tmp 163) (.tmp 165) rfl rfl rfl (rows := rl) OL.out.rd h2n (by omega) hqo K0.out K1.out HE.out RLIT.out ?hk)
    case hk =>
      intro gt capt v10 ht gg
      have MT := Lib.hid ht
      clear ht RLIT HE K0 K1
      replace E := Lib.hid (E.out.trans gg)
      replace HQT := Lib.hid (HQT.out.ext gg)
      replace OL := Lib.hid (OL.out.ext gg)
      replace RW1 := Lib.hid (RW1.out.ext gg)
      replace D0 := Lib.hid (gg.cell (p := ⟨O2, 0, none⟩) D0.out)
      replace D1 := Lib.hid (gg.cell (p := ⟨O2, 1, none⟩) D1.out)
      clear gg
      have x00 := D0.out
      have x01 := D1.out
      go_wp2_with (fail)
      clear x00 x01
      have HWT := c_WedgeOfVectors_ok pt at_ dt ct qt (some ⟨gt, 0, none⟩) nl capt (swapL rl 0 1) v10 (by omega) (by omega) HLS.out HQT.out MT.out HCS.out
      rw [← HM.out] at HWT
      refine Calls.mono (HWT) ?_
      rintro e v11 ⟨rS, kS, rfl, ho, gg⟩
      have RS := Lib.hid (ho.mono (Nat.zero_le _))
      clear ho
      replace E := Lib.hid (E.out.trans gg)
      replace HQT := Lib.hid (HQT.out.ext gg)
      replace OL := Lib.hid (OL.out.ext gg)
      replace RW1 := Lib.hid (RW1.out.ext gg)
      replace MT := Lib.hid (MT.out.ext gg)
      replace D0 := Lib.hid (gg.cell (p := ⟨O2, 0, none⟩) D0.out)
      replace D1 := Lib.hid (gg.cell (p := ⟨O2, 1, none⟩) D1.out)
      clear gg
      clear HWT
      have x00 := D0.out
      have x01 := D1.out
      go_wp2_with (fail)
      clear x00 x01
      refine Calls.mono (l_plus5 pt _ _ M _ _ (wedgeL pt qt (swapL rl 0 1) nl) (wedgeL pt qt rl nl) 1 v11 (by omega) (by omega) (by omega) (by omega) RS.out.rd RW1.out.rd (HGW.out _) (HGW.out _)) ?_
      rintro e v12 ⟨gP, cP, rfl, ho, gg⟩
      have RP := Lib.hid (ho.mono (Nat.zero_le _))
      clear ho
      replace E := Lib.hid (E.out.trans gg)
      replace HQT := Lib.hid (HQT.out.ext gg)
      replace OL := Lib.hid (OL.out.ext gg)
      replace RW1 := Lib.hid (RW1.out.ext gg)
      replace MT := Lib.hid (MT.out.ext gg)
      replace RS := Lib.hid (RS.out.ext gg)
      replace D0 := Lib.hid (gg.cell (p := ⟨O2, 0, none⟩) D0.out)
      replace D1 := Lib.hid (gg.cell (p := ⟨O2, 1, none⟩) D1.out)
      clear gg
      have x00 := D0.out
      have x01 := D1.out
      go_wp2_with (fail)
      clear x00 x01
      refine Calls.mono (l_zero5 _ M _ _ v12 (by omega) RP.out.rd) ?_
      rintro e v13 ⟨rfl, gg⟩
      replace E := Lib.hid (E.out.trans gg)
      replace HQT := Lib.hid (HQT.out.ext gg)
      replace OL := Lib.hid (OL.out.ext gg)
      replace RW1 := Lib.hid (RW1.out.ext gg)
      replace MT := Lib.hid (MT.out.ext gg)
      replace RS := Lib.hid (RS.out.ext gg)
      replace RP := Lib.hid (RP.out.ext gg)
      replace D0 := Lib.hid (gg.cell (p := ⟨O2, 0, none⟩) D0.out)
      replace D1 := Lib.hid (gg.cell (p := ⟨O2, 1, none⟩) D1.out)
      clear gg
      rw [HZT.out]
      clear MT RS RP
      by_cases hnd : nl = dt
      rotate_left
      · skip
        have hnb : ((nl : Int) != (dt : Int)) = true := by simp; omega
        have x00 := D0.out
        have x01 := D1.out
        go_wp2_with (fail)
        clear x00 x01
        refine Calls.mono (c_VolumeOf_no pt at_ dt ct qt _ nl cl rl v13 (by omega) (by omega) HLL.out HQT.out OL.out.rd HCV.out hnd) ?_
        rintro e v14 ⟨rfl, gg⟩
        replace E := Lib.hid (E.out.trans gg)
        replace HQT := Lib.hid (HQT.out.ext gg)
        replace OL := Lib.hid (OL.out.ext gg)
        replace RW1 := Lib.hid (RW1.out.ext gg)
        replace D0 := Lib.hid (gg.cell (p := ⟨O2, 0, none⟩) D0.out)
        replace D1 := Lib.hid (gg.cell (p := ⟨O2, 1, none⟩) D1.out)
        clear gg
        have x00 := D0.out
        have x01 := D1.out
        go_wp2_with (fail)
        clear x00 x01
        go_ret
        exact ⟨rfl, E.out⟩
      subst hnd
      have hnb : ((nl : Int) != (nl : Int)) = false := by simp
      have x00 := D0.out
      have x01 := D1.out
      go_wp2_with (fail)
      clear x00 x01
      refine Calls.mono (c_VolumeOf_ok pt at_ nl ct qt _ cl rl v13 (by omega) HLL.out HQT.out OL.out.rd HCV.out) ?_
      rintro e v14 ⟨rfl, gg⟩
      replace E := Lib.hid (E.out.trans gg)
      replace HQT := Lib.hid (HQT.out.ext gg)
      replace OL := Lib.hid (OL.out.ext gg)
      replace RW1 := Lib.hid (RW1.out.ext gg)
      replace D0 := Lib.hid (gg.cell (p := ⟨O2, 0, none⟩) D0.out)
      replace D1 := Lib.hid (gg.cell (p := ⟨O2, 1, none⟩) D1.out)
      clear gg
      have hdv := HDV.out (by first | exact rfl | trivial)
      obtain ⟨dv, hdv0⟩ : ∃ z, z = detL pt nl rl := ⟨_, rfl⟩
      have HDE := Lib.hid hdv0
      rw [← hdv0]
      rw [← hdv0] at hdv
      clear hdv0
      have x00 := D0.out
      have x01 := D1.out
      go_wp2_with (fail)
      clear x00 x01
      refine Calls.mono (c_Determinant_ok pt _ nl cl rl v14 HPT.out (by omega) (by omega) OL.out.rd HGT'.out) ?_
      rintro e v15 ⟨rfl, gg⟩
      replace E := Lib.hid (E.out.trans gg)
      replace HQT := Lib.hid (HQT.out.ext gg)
      replace OL := Lib.hid (OL.out.ext gg)
      replace RW1 := Lib.hid (RW1.out.ext gg)
      replace D0 := Lib.hid (gg.cell (p := ⟨O2, 0, none⟩) D0.out)
      replace D1 := Lib.hid (gg.cell (p := ⟨O2, 1, none⟩) D1.out)
      clear gg
      rw [← HDE.out]
      have hcz := RW1.out.cell (j := M1) (by omega)
      rw [hdv] at hcz
      have hwM := HWM.out
      have hvM := HVM.out
      have x00 := D0.out
      have x01 := D1.out
      go_wp2_with (fail)
      clear x00 x01
      go_wp2_with (fail)
      go_ret
      exact ⟨rfl, E.out⟩
  replace hc : codeM p qs [x, y] = 0 := by simpa using hc
  have x00 := C0.out
  have x01 := C1.out
  go_wp2_with (fail)
  clear x00 x01
  refine Calls.mono (c_WedgeProduct_ok p a d cap qs ax nx cx x ay ny cy y W (by omega) (by omega) (by omega) HQ.out HX.out HY.out hc) ?_
  rintro e v1 ⟨rZ, kZ, rfl, ho, gg⟩
  have RZ := Lib.hid (ho.mono (Nat.zero_le _))
  clear ho
  replace E := Lib.hid (E.out.trans gg)
  replace HQ := Lib.hid (HQ.out.ext gg)
  replace HX := Lib.hid (HX.out.ext gg)
  replace HY := Lib.hid (HY.out.ext gg)
  replace C0 := Lib.hid (gg.cell (p := ⟨O, 0, none⟩) C0.out)
  replace C1 := Lib.hid (gg.cell (p := ⟨O, 1, none⟩) C1.out)
  clear gg
  have x00 := C0.out
  have x01 := C1.out
  go_wp2_with (fail)
  clear x00 x01
  refine Calls.mono (s_WedgeProduct_ok p a d cap qs ax nx cx x ay ny cy y v1 (by omega) (by omega) (by omega) HQ.out HX.out HY.out hc) ?_
  rintro e v2 ⟨rT, kT, rfl, ho, gg⟩
  have RT := Lib.hid (ho.mono (Nat.zero_le _))
  clear ho
  replace E := Lib.hid (E.out.trans gg)
  replace HQ := Lib.hid (HQ.out.ext gg)
  replace HX := Lib.hid (HX.out.ext gg)
  replace HY := Lib.hid (HY.out.ext gg)
  replace RZ := Lib.hid (RZ.out.ext gg)
  replace C0 := Lib.hid (gg.cell (p := ⟨O, 0, none⟩) C0.out)
  replace C1 := Lib.hid (gg.cell (p := ⟨O, 1, none⟩) C1.out)
  clear gg
  obtain ⟨hs, hgx, hgy⟩ := codeM_of2 hc
  clear hc
  have HSP := Lib.hid (hs)
  obtain ⟨hpr, hd1, hd6, hqb⟩ := space_of HSP.out
  have hpb := prime_bd hpr
  have HPR := Lib.hid hpr
  have HQB := Lib.hid hqb
  have HD := Lib.hid HQ.out.1
  rw [HD.out] at hd6 hd1
  obtain ⟨N, hN⟩ : ∃ N, N = 2 ^ d := ⟨_, rfl⟩
  have HN := Lib.hid hN
  have hN6 : N ≤ 64 := by rw [hN]; exact pow_le64 hd6
  have hN1 : 1 ≤ N := by rw [hN]; exact pow_pos' d
  have HPG := fun (tk : Nat → Nat → Bool) (x y : List Int) => Lib.hid (show Good p N (prodL p qs tk x y) by rw [hN, ← HD.out]; exact prod_good (by omega))
  have HNQ := Lib.hid (show N = 2 ^ qs.length by rw [hN, HD.out])
  clear hN hqb hpr
  obtain rfl : N = nx := by rw [← HX.out.1, HNQ.out]; exact hgx.1.symm
  obtain rfl : N = ny := by rw [← HY.out.1, HNQ.out]; exact hgy.1.symm
  have HGX := Lib.hid (show Good p N x by rw [HNQ.out]; exact hgx)
  clear hgx
  have HGY := Lib.hid (show Good p N y by rw [HNQ.out]; exact hgy)
  clear hgy
  have HCM := Lib.hid (show ∀ u v, Good p N u → Good p N v → codeM p qs [u, v] = 0 from fun u v hu hv => codeM_two0 hs (by rw [← HNQ.out]; exact hu) (by rw [← HNQ.out]; exact hv))
  clear hs
  have HZG := Lib.hid (show Good p N (prodL p qs tkW x y) from (HPG tkW x y).out)
  obtain ⟨gZ, rfl⟩ := RZ.out.addr (by omega)
  obtain ⟨gT, rfl⟩ := RT.out.addr (by omega)
  have x00 := C0.out
  have x01 := C1.out
  go_wp2_with (fail)
  clear x00 x01
  have H := l_like (some ⟨gZ, 0, none⟩) (some ⟨gT, 0, none⟩) N N kZ kT _ _ v2 (by omega) (by omega) RZ.out.rd RT.out.rd
  rw [eqB_self] at H
  refine Calls.mono H ?_
  clear H
  rintro e v3 ⟨rfl, gg⟩
  replace E := Lib.hid (E.out.trans gg)
  replace HQ := Lib.hid (HQ.out.ext gg)
  replace HX := Lib.hid (HX.out.ext gg)
  replace HY := Lib.hid (HY.out.ext gg)
  replace RZ := Lib.hid (RZ.out.ext gg)
  replace RT := Lib.hid (RT.out.ext gg)
  replace C0 := Lib.hid (gg.cell (p := ⟨O, 0, none⟩) C0.out)
  replace C1 := Lib.hid (gg.cell (p := ⟨O, 1, none⟩) C1.out)
  clear gg
  clear RT
  have x00 := C0.out
  have x01 := C1.out
  go_wp2_with (fail)
  clear x00 x01
  replace E := Lib.hid (E.out.trans (ext_drew v3))
  replace HQ := Lib.hid (HQ.out.ext (ext_drew v3))
  replace HX := Lib.hid (HX.out.ext (ext_drew v3))
  replace HY := Lib.hid (HY.out.ext (ext_drew v3))
  replace RZ := Lib.hid (RZ.out.ext (ext_drew v3))
  replace C0 := Lib.hid ((ext_drew v3).cell (p := ⟨O, 0, none⟩) C0.out)
  replace C1 := Lib.hid ((ext_drew v3).cell (p := ⟨O, 1, none⟩) C1.out)
  refine Chg.wp_region_lex (E := Rolls.rel ac nc cc v3.drew.heap.size) [(1, .source ac nc cc v3.drew.heap.size), (3, .val (.int .i64 N)), (6, .rowP ac nc cc v3.drew.heap.size N (Good p N) hN1)] (by kernel_rfl) (by kernel_rfl) ?_
  (refine Chg.LexW.pure (v := ?_) rfl rfl (fun w1 he => ?_) ?_; rotate_left; ( have he2 : Rolls ac nc cc v3.drew.heap.size v3.drew _ := he; have he' : Ext v3.drew _ := he2.below; have x00 := (he'.cell (p := ⟨O, 0, none⟩) C0.out); have x01 := (he'.cell (p := ⟨O, 1, none⟩) C1.out); go_simp; rfl); simp only [Act.put, List.setIfInBounds_toArray, List.set_cons_zero, List.set_cons_succ])
  (refine Chg.LexW.callR (f := ?_) (args := ?_) rfl rfl (fun w1 => ?_) (fun w1 he hdep => ?_) (fun v hv => ?_); rotate_left 2; (go_simp; refine ⟨?_, ?_⟩ <;> rfl); ( have he2 : Rolls ac nc cc v3.drew.heap.size v3.drew _ := he; have he' : Ext v3.drew _ := he2.below; (refine Calls.mono (l_roll ac nc cc 837 w1 (by omega) (HB.out.ext (E.out.trans he'))) ?_; rintro e w9 ⟨g9, rfl, h9, s9, x9⟩; exact ⟨_, rfl, Rolls.of_ext x9 he2.below.size, g9, rfl, Nat.le_trans he2.below.size h9, s9⟩)); simp only [Act.put, List.setIfInBounds_toArray, List.set_cons_zero, List.set_cons_succ])
  obtain ⟨_, gS, rfl, _⟩ := hv
  (refine Chg.LexW.pure (v := ?_) rfl rfl (fun w1 he => ?_) ?_; rotate_left; ( have he2 : Rolls ac nc cc v3.drew.heap.size v3.drew _ := he; have he' : Ext v3.drew _ := he2.below; have x00 := (he'.cell (p := ⟨O, 0, none⟩) C0.out); have x01 := (he'.cell (p := ⟨O, 1, none⟩) C1.out); go_simp; rfl); simp only [Act.put, List.setIfInBounds_toArray, List.set_cons_zero, List.set_cons_succ])
  (refine Chg.LexW.call (f := ?_) (args := ?_) rfl rfl (fun w1 => ?_) (fun w1 he hdep => ?_) ?_; rotate_left 2; (go_simp; refine ⟨?_, ?_⟩ <;> rfl); ( have he2 : Rolls ac nc cc v3.drew.heap.size v3.drew _ := he; have he' : Ext v3.drew _ := he2.below; have H := l_size5 p a d cap w1 hd6 HN.out; exact H.mono fun e w' h => ⟨h.1, Rolls.of_ext h.2 he2.below.size⟩); simp only [Act.put, List.setIfInBounds_toArray, List.set_cons_zero, List.set_cons_succ])
  (refine Chg.LexW.pure (v := ?_) rfl rfl (fun w1 he => ?_) ?_; rotate_left; ( have he2 : Rolls ac nc cc v3.drew.heap.size v3.drew _ := he; have he' : Ext v3.drew _ := he2.below; have x00 := (he'.cell (p := ⟨O, 0, none⟩) C0.out); have x01 := (he'.cell (p := ⟨O, 1, none⟩) C1.out); go_simp; rfl); simp only [Act.put, List.setIfInBounds_toArray, List.set_cons_zero, List.set_cons_succ])
  (refine Chg.LexW.pure (v := ?_) rfl rfl (fun w1 he => ?_) ?_; rotate_left; ( have he2 : Rolls ac nc cc v3.drew.heap.size v3.drew _ := he; have he' : Ext v3.drew _ := he2.below; have x00 := (he'.cell (p := ⟨O, 0, none⟩) C0.out); have x01 := (he'.cell (p := ⟨O, 1, none⟩) C1.out); go_simp; rfl); simp only [Act.put, List.setIfInBounds_toArray, List.set_cons_zero, List.set_cons_succ])
  (refine Chg.LexW.callR (f := ?_) (args := ?_) rfl rfl (fun w1 => ?_) (fun w1 he hdep => ?_) (fun v hv => ?_); rotate_left 2; (go_simp; refine ⟨?_, ?_⟩ <;> rfl); ( have he2 : Rolls ac nc cc v3.drew.heap.size v3.drew _ := he; have he' : Ext v3.drew _ := he2.below; obtain ⟨_, qS, hBS, hSS⟩ : (Chg.SPred.source ac nc cc v3.drew.heap.size).holds (.pointer (some ⟨gS, 0, none⟩)) w1 := hdep (1, 66) (by decide +kernel); cases qS; (refine Calls.mono (l_list5 ⟨gS, ac, nc, cc⟩ p N _ hSS (by omega) (by omega)) ?_; rintro e w9 ⟨a9, c9, x9, rfl, ho9, hb9, g9⟩; obtain ⟨g8, _, rfl, _⟩ := ho9.row (by omega); exact ⟨_, rfl, Rolls.of_drw hBS hSS g9, g8, c9, x9, rfl, isB_Good ho9.1 (hb9 (by omega)), ho9.mono (Nat.zero_le _)⟩)); simp only [Act.put, List.setIfInBounds_toArray, List.set_cons_zero, List.set_cons_succ])
  obtain ⟨_, gU, cU, _, rfl, _⟩ := hv
  (refine Chg.LexW.pure (v := ?_) rfl rfl (fun w1 he => ?_) ?_; rotate_left; ( have he2 : Rolls ac nc cc v3.drew.heap.size v3.drew _ := he; have he' : Ext v3.drew _ := he2.below; have x00 := (he'.cell (p := ⟨O, 0, none⟩) C0.out); have x01 := (he'.cell (p := ⟨O, 1, none⟩) C1.out); go_simp; rfl); simp only [Act.put, List.setIfInBounds_toArray, List.set_cons_zero, List.set_cons_succ])
  refine Chg.LexW.nil (fun v4 he hkn => ?_)
  have he2 : Rolls ac nc cc v3.drew.heap.size v3.drew v4 := he
  have gg : Ext v3.drew v4 := he2.below
  obtain ⟨_, _, u, qU, pU, rU⟩ : (Chg.SPred.rowP ac nc cc v3.drew.heap.size N (Good p N) hN1).holds (.slice (some ⟨gU, 0, none⟩) N cU) v4 := hkn (6, _) (by simp)
  cases qU
  have RU := Lib.hid rU
  have HGU := Lib.hid pU
  replace E := Lib.hid (E.out.trans gg)
  replace HQ := Lib.hid (HQ.out.ext gg)
  replace HX := Lib.hid (HX.out.ext gg)
  replace HY := Lib.hid (HY.out.ext gg)
  replace RZ := Lib.hid (RZ.out.ext gg)
  replace C0 := Lib.hid (gg.cell (p := ⟨O, 0, none⟩) C0.out)
  replace C1 := Lib.hid (gg.cell (p := ⟨O, 1, none⟩) C1.out)
  clear gg he he2 hkn rU pU
  have x00 := C0.out
  have x01 := C1.out
  go_wp2_with (fail)
  clear x00 x01
  refine Calls.mono (c_WedgeProduct_ok p a d cap qs _ N _ (prodL p qs tkW x y) _ N _ (u) v4 (by omega) (by omega) (by omega) HQ.out RZ.out.rd RU.out.rd (HCM.out _ _ HZG.out HGU.out)) ?_
  rintro e v5 ⟨rA1, kA1, rfl, ho, gg⟩
  have RA1 := Lib.hid (ho.mono (Nat.zero_le _))
  clear ho
  replace E := Lib.hid (E.out.trans gg)
  replace HQ := Lib.hid (HQ.out.ext gg)
  replace HX := Lib.hid (HX.out.ext gg)
  replace HY := Lib.hid (HY.out.ext gg)
  replace RZ := Lib.hid (RZ.out.ext gg)
  replace RU := Lib.hid (RU.out.ext gg)
  replace C0 := Lib.hid (gg.cell (p := ⟨O, 0, none⟩) C0.out)
  replace C1 := Lib.hid (gg.cell (p := ⟨O, 1, none⟩) C1.out)
  clear gg
  have x00 := C0.out
  have x01 := C1.out
  go_wp2_with (fail)
  clear x00 x01
  refine Calls.mono (c_WedgeProduct_ok p a d cap qs _ N _ (y) _ N _ (u) v5 (by omega) (by omega) (by omega) HQ.out HY.out RU.out.rd (HCM.out _ _ HGY.out HGU.out)) ?_
  rintro e v6 ⟨rA2, kA2, rfl, ho, gg⟩
  have RA2 := Lib.hid (ho.mono (Nat.zero_le _))
  clear ho
  replace E := Lib.hid (E.out.trans gg)
  replace HQ := Lib.hid (HQ.out.ext gg)
  replace HX := Lib.hid (HX.out.ext gg)
  replace HY := Lib.hid (HY.out.ext gg)
  replace RZ := Lib.hid (RZ.out.ext gg)
  replace RU := Lib.hid (RU.out.ext gg)
  replace RA1 := Lib.hid (RA1.out.ext gg)
  replace C0 := Lib.hid (gg.cell (p := ⟨O, 0, none⟩) C0.out)
  replace C1 := Lib.hid (gg.cell (p := ⟨O, 1, none⟩) C1.out)
  clear gg
  have HYU := Lib.hid (show Good p N (prodL p qs tkW y u) from (HPG tkW y u).out)
  have x00 := C0.out
  have x01 := C1.out
  go_wp2_with (fail)
  clear x00 x01
  refine Calls.mono (c_WedgeProduct_ok p a d cap qs _ N _ (x) _ N _ (prodL p qs tkW y u) v6 (by omega) (by omega) (by omega) HQ.out HX.out RA2.out.rd (HCM.out _ _ HGX.out HYU.out)) ?_
  rintro e v7 ⟨rA3, kA3, rfl, ho, gg⟩
  have RA3 := Lib.hid (ho.mono (Nat.zero_le _))
  clear ho
  replace E := Lib.hid (E.out.trans gg)
  replace HQ := Lib.hid (HQ.out.ext gg)
  replace HX := Lib.hid (HX.out.ext gg)
  replace HY := Lib.hid (HY.out.ext gg)
  replace RZ := Lib.hid (RZ.out.ext gg)
  replace RU := Lib.hid (RU.out.ext gg)
  replace RA1 := Lib.hid (RA1.out.ext gg)
  replace RA2 := Lib.hid (RA2.out.ext gg)
  replace C0 := Lib.hid (gg.cell (p := ⟨O, 0, none⟩) C0.out)
  replace C1 := Lib.hid (gg.cell (p := ⟨O, 1, none⟩) C1.out)
  clear gg
  have HAS := Lib.hid (show prodL p qs tkW (prodL p qs tkW x y) u = prodL p qs tkW x (prodL p qs tkW y u) from wedge_assoc (by omega) (by rw [HD.out]; exact hd6))
  have x00 := C0.out
  have x01 := C1.out
  go_wp2_with (fail)
  clear x00 x01
  have H := l_like rA1 rA3 N N kA1 kA3 _ _ v7 (by omega) (by omega) RA1.out.rd RA3.out.rd
  rw [HAS.out, eqB_self] at H
  refine Calls.mono H ?_
  clear H
  rintro e v8 ⟨rfl, gg⟩
  replace E := Lib.hid (E.out.trans gg)
  replace HQ := Lib.hid (HQ.out.ext gg)
  replace HX := Lib.hid (HX.out.ext gg)
  replace HY := Lib.hid (HY.out.ext gg)
  replace RZ := Lib.hid (RZ.out.ext gg)
  replace RU := Lib.hid (RU.out.ext gg)
  replace RA1 := Lib.hid (RA1.out.ext gg)
  replace RA2 := Lib.hid (RA2.out.ext gg)
  replace RA3 := Lib.hid (RA3.out.ext gg)
  replace C0 := Lib.hid (gg.cell (p := ⟨O, 0, none⟩) C0.out)
  replace C1 := Lib.hid (gg.cell (p := ⟨O, 1, none⟩) C1.out)
  clear gg
  have x00 := C0.out
  have x01 := C1.out
  go_wp2_with (fail)
  clear x00 x01
  refine Calls.mono (s_drawWedgeOfVectors ac nc cc v8 (by omega) (HB.out.ext E.out)) ?_
  rintro e v9 ⟨pt, at_, dt, ct, qt, al, nl, cl, rl, rfl, ht0, ht1, htd, hnl, hll, hqt, hrl, gg⟩
  have HQT := Lib.hid hqt.rd
  have OL := Lib.hid hrl
  have HLL := Lib.hid (show ∀ i, i < nl → (nthR rl i).length ≤ 4194304 from fun i hi => by have := hll i hi; omega)
  replace E := Lib.hid (E.out.trans gg)
  clear gg hqt hrl hll
  go_wp2_with (fail)
  obtain ⟨O2, hO2⟩ : ∃ O, O = v9.heap.size := ⟨_, rfl⟩
  obtain ⟨W2, hW2⟩ : ∃ W, W = v9.alloc (.cells #[.int .i64 pt, .slice at_ dt ct] 26) := ⟨_, rfl⟩
  have D0 := Lib.hid (show W2.cell? ⟨O2, 0, none⟩ = some (.int .i64 pt) by rw [hW2, hO2]; simp)
  have D1 := Lib.hid (show W2.cell? ⟨O2, 1, none⟩ = some (.slice at_ dt ct) by rw [hW2, hO2]; simp)
  have gg : Ext v9 W2 := by rw [hW2]; exact ext_alloc _ _
  rw [← hO2, ← hW2]
  clear hO2 hW2
  replace E := Lib.hid (E.out.trans gg)
  replace HQT := Lib.hid (HQT.out.ext gg)
  replace OL := Lib.hid (OL.out.ext gg)
  clear gg
  by_cases hcv : codeVR pt qt rl ≠ 0
  · skip
    have HCV := Lib.hid hcv
    obtain ⟨cv, hcv0⟩ : ∃ z, z = codeVR pt qt rl := ⟨_, rfl⟩
    have HCC := Lib.hid hcv0
    have hvb : (cv != 0) = true := by rw [hcv0]; simp [hcv]
    clear hcv hcv0
    refine Calls.mono (c_WedgeOfVectors_bad pt at_ dt ct qt al nl cl rl W2 (by omega) (by omega) HLL.out HQT.out OL.out.rd HCV.out) ?_
    rintro e v10 ⟨rB1, kB1, rfl, ho, gg⟩
    have RB1 := Lib.hid (ho.mono (Nat.zero_le _))
    clear ho
    replace E := Lib.hid (E.out.trans gg)
    replace HQT := Lib.hid (HQT.out.ext gg)
    replace OL := Lib.hid (OL.out.ext gg)
    replace D0 := Lib.hid (gg.cell (p := ⟨O2, 0, none⟩) D0.out)
    replace D1 := Lib.hid (gg.cell (p := ⟨O2, 1, none⟩) D1.out)
    clear gg
    rw [← HCC.out]
    have x00 := D0.out
    have x01 := D1.out
    go_wp2_with (fail)
    clear x00 x01
    refine Calls.mono (s_WedgeOfVectors_bad pt at_ dt ct qt al nl cl rl v10 (by omega) (by omega) HLL.out HQT.out OL.out.rd HCV.out) ?_
    rintro e v11 ⟨rB2, kB2, rfl, ho, gg⟩
    have RB2 := Lib.hid (ho.mono (Nat.zero_le _))
    clear ho
    replace E := Lib.hid (E.out.trans gg)
    replace HQT := Lib.hid (HQT.out.ext gg)
    replace OL := Lib.hid (OL.out.ext gg)
    replace RB1 := Lib.hid (RB1.out.ext gg)
    replace D0 := Lib.hid (gg.cell (p := ⟨O2, 0, none⟩) D0.out)
    replace D1 := Lib.hid (gg.cell (p := ⟨O2, 1, none⟩) D1.out)
    clear gg
    rw [← HCC.out]
    have x00 := D0.out
    have x01 := D1.out
    go_wp2_with (fail)
    clear x00 x01
    refine Calls.mono (c_AreDependent_bad pt at_ dt ct qt al nl cl rl v11 (by omega) (by omega) HLL.out HQT.out OL.out.rd HCV.out) ?_
    rintro e v12 ⟨rfl, gg⟩
    replace E := Lib.hid (E.out.trans gg)
    replace HQT := Lib.hid (HQT.out.ext gg)
    replace OL := Lib.hid (OL.out.ext gg)
    replace RB1 := Lib.hid (RB1.out.ext gg)
    replace RB2 := Lib.hid (RB2.out.ext gg)
    replace D0 := Lib.hid (gg.cell (p := ⟨O2, 0, none⟩) D0.out)
    replace D1 := Lib.hid (gg.cell (p := ⟨O2, 1, none⟩) D1.out)
    clear gg
    rw [← HCC.out]
    have x00 := D0.out
    have x01 := D1.out
    go_wp2_with (fail)
    clear x00 x01
    have H := l_like rB1 rB2 0 0 kB1 kB2 _ _ v12 (by omega) (by omega) RB1.out.rd RB2.out.rd
    rw [eqB_self] at H
    refine Calls.mono H ?_
    clear H
    rintro e v13 ⟨rfl, gg⟩
    replace E := Lib.hid (E.out.trans gg)
    replace HQT := Lib.hid (HQT.out.ext gg)
    replace OL := Lib.hid (OL.out.ext gg)
    replace RB1 := Lib.hid (RB1.out.ext gg)
    replace RB2 := Lib.hid (RB2.out.ext gg)
    replace D0 := Lib.hid (gg.cell (p := ⟨O2, 0, none⟩) D0.out)
    replace D1 := Lib.hid (gg.cell (p := ⟨O2, 1, none⟩) D1.out)
    clear gg
    go_wp2_with (fail)
    go_ret
    exact ⟨rfl, E.out⟩
  replace hcv : codeVR pt qt rl = 0 := by simpa using hcv
  have HCV := Lib.hid hcv
  obtain ⟨hst, hat, hl16⟩ := codeVR_zero hcv
  obtain ⟨hpt, hd1t, hd6t, hqbt⟩ := space_of hst
  have hptb := prime_bd hpt
  have hqd := HQT.out.1
  have hrln := OL.out.1
  have HPT := Lib.hid hpt
  have HGQ := Lib.hid (rows_good hat)
  have HGT := Lib.hid (show RowsG pt dt rl by rw [← hqd]; exact rows_good hat)
  have HGT' := Lib.hid (show ∀ i, i < nl → Good pt dt (nthR rl i) from fun i hi => HGT.out i (by omega))
  obtain ⟨M, hM⟩ : ∃ M, M = 2 ^ dt := ⟨_, rfl⟩
  have HM := Lib.hid hM
  have hM6 : M ≤ 64 := by rw [hM]; exact pow_le64 (by omega)
  have hM1 : 1 ≤ M := by rw [hM]; exact pow_pos' dt
  obtain ⟨M1, hMM⟩ : ∃ M1, M = M1 + 1 := ⟨M - 1, by omega⟩
  have hwM : IntKind.i64.wrap ((M : Int) - 1) = (M1 : Int) := by rw [IntWalk.i64_in _ (by omega)]; omega
  have hvM : wrap64 ((M : Int) - 1) = (M1 : Int) := by unfold wrap64; omega
  have hiM : (M1 : Int) < (M : Int) := by omega
  have HWM := Lib.hid hwM
  have HVM := Lib.hid hvM
  clear hwM hvM
  have hjM : (0 : Int) < (M : Int) := by omega
  have HDZ := Lib.hid (show decide (rankL pt dt rl < nl) = zeroZ (wedgeL pt qt rl nl) M by rw [hM, ← hqd]; exact dep_zero hpt (by omega) HGQ.out hrln)
  have HDV := Lib.hid (show nl = dt → nth (wedgeL pt qt rl nl) M1 = detL pt nl rl from fun h => by
    have h9 := wd_det (qs := qt) hpt (by omega) HGQ.out (by omega)
    rw [hrln, hqd, ← hM, show M - 1 = M1 by omega] at h9
    subst h
    exact h9)
  have HGW := Lib.hid (show ∀ r, Good pt M (wedgeL pt qt r nl) from fun r => by rw [hM, ← hqd]; exact prodS_good (by omega) nl)
  clear hcv hst hat hpt hqbt hM hMM
  have HW1 := c_WedgeOfVectors_ok pt at_ dt ct qt al nl cl rl W2 (by omega) (by omega) HLL.out HQT.out OL.out.rd HCV.out
  rw [← HM.out] at HW1
  refine Calls.mono (HW1) ?_
  rintro e v10 ⟨rW1, kW1, rfl, ho, gg⟩
  have RW1 := Lib.hid (ho.mono (Nat.zero_le _))
  clear ho
  replace E := Lib.hid (E.out.trans gg)
  replace HQT := Lib.hid (HQT.out.ext gg)
  replace OL := Lib.hid (OL.out.ext gg)
  replace D0 := Lib.hid (gg.cell (p := ⟨O2, 0, none⟩) D0.out)
  replace D1 := Lib.hid (gg.cell (p := ⟨O2, 1, none⟩) D1.out)
  clear gg
  clear HW1
  obtain ⟨gW1, rfl⟩ := RW1.out.addr (by omega)
  have x00 := D0.out
  have x01 := D1.out
  go_wp2_with (fail)
  clear x00 x01
  have HW2 := s_WedgeOfVectors_ok pt at_ dt ct qt al nl cl rl v10 (by omega) (by omega) HLL.out HQT.out OL.out.rd HCV.out
  rw [← HM.out] at HW2
  refine Calls.mono (HW2) ?_
  rintro e v11 ⟨rW2, kW2, rfl, ho, gg⟩
  have RW2 := Lib.hid (ho.mono (Nat.zero_le _))
  clear ho
  replace E := Lib.hid (E.out.trans gg)
  replace HQT := Lib.hid (HQT.out.ext gg)
  replace OL := Lib.hid (OL.out.ext gg)
  replace RW1 := Lib.hid (RW1.out.ext gg)
  replace D0 := Lib.hid (gg.cell (p := ⟨O2, 0, none⟩) D0.out)
  replace D1 := Lib.hid (gg.cell (p := ⟨O2, 1, none⟩) D1.out)
  clear gg
  clear HW2
  obtain ⟨gW2, rfl⟩ := RW2.out.addr (by omega)
  have x00 := D0.out
  have x01 := D1.out
  go_wp2_with (fail)
  clear x00 x01
  refine Calls.mono (c_AreDependent_ok pt at_ dt ct qt al nl cl rl v11 (by omega) (by omega) HLL.out HQT.out OL.out.rd HCV.out) ?_
  rintro e v12 ⟨rfl, gg⟩
  replace E := Lib.hid (E.out.trans gg)
  replace HQT := Lib.hid (HQT.out.ext gg)
  replace OL := Lib.hid (OL.out.ext gg)
  replace RW1 := Lib.hid (RW1.out.ext gg)
  replace RW2 := Lib.hid (RW2.out.ext gg)
  replace D0 := Lib.hid (gg.cell (p := ⟨O2, 0, none⟩) D0.out)
  replace D1 := Lib.hid (gg.cell (p := ⟨O2, 1, none⟩) D1.out)
  clear gg
  rw [HDZ.out]
  obtain ⟨bz, hbz⟩ : ∃ z, z = zeroZ (wedgeL pt qt rl nl) M := ⟨_, rfl⟩
  have HBZ := Lib.hid hbz
  rw [← hbz]
  clear hbz
  have x00 := D0.out
  have x01 := D1.out
  go_wp2_with (fail)
  clear x00 x01
  have H := l_like (some ⟨gW1, 0, none⟩) (some ⟨gW2, 0, none⟩) M M kW1 kW2 _ _ v12 (by omega) (by omega) RW1.out.rd RW2.out.rd
  rw [eqB_self] at H
  refine Calls.mono H ?_
  clear H
  rintro e v13 ⟨rfl, gg⟩
  replace E := Lib.hid (E.out.trans gg)
  replace HQT := Lib.hid (HQT.out.ext gg)
  replace OL := Lib.hid (OL.out.ext gg)
  replace RW1 := Lib.hid (RW1.out.ext gg)
  replace RW2 := Lib.hid (RW2.out.ext gg)
  replace D0 := Lib.hid (gg.cell (p := ⟨O2, 0, none⟩) D0.out)
  replace D1 := Lib.hid (gg.cell (p := ⟨O2, 1, none⟩) D1.out)
  clear gg
  clear RW2
  have x00 := D0.out
  have x01 := D1.out
  go_wp2_with (fail)
  clear x00 x01
  refine Calls.mono (l_zero5 _ M _ (wedgeL pt qt rl nl) v13 (by omega) RW1.out.rd) ?_
  rintro e v14 ⟨rfl, gg⟩
  replace E := Lib.hid (E.out.trans gg)
  replace HQT := Lib.hid (HQT.out.ext gg)
  replace OL := Lib.hid (OL.out.ext gg)
  replace RW1 := Lib.hid (RW1.out.ext gg)
  replace D0 := Lib.hid (gg.cell (p := ⟨O2, 0, none⟩) D0.out)
  replace D1 := Lib.hid (gg.cell (p := ⟨O2, 1, none⟩) D1.out)
  clear gg
  rw [← HBZ.out]
  have hbb : (bz != bz) = false := by cases bz <;> rfl
  by_cases h1n : 1 < nl
  rotate_left
  · skip
    have h1i : ¬ (1 : Int) < (nl : Int) := by omega
    by_cases hnd : nl = dt
    rotate_left
    · skip
      have hnb : ((nl : Int) != (dt : Int)) = true := by simp; omega
      have x00 := D0.out
      have x01 := D1.out
      go_wp2_with (fail)
      clear x00 x01
      refine Calls.mono (c_VolumeOf_no pt at_ dt ct qt _ nl cl rl v14 (by omega) (by omega) HLL.out HQT.out OL.out.rd HCV.out hnd) ?_
      rintro e v15 ⟨rfl, gg⟩
      replace E := Lib.hid (E.out.trans gg)
      replace HQT := Lib.hid (HQT.out.ext gg)
      replace OL := Lib.hid (OL.out.ext gg)
      replace RW1 := Lib.hid (RW1.out.ext gg)
      replace D0 := Lib.hid (gg.cell (p := ⟨O2, 0, none⟩) D0.out)
      replace D1 := Lib.hid (gg.cell (p := ⟨O2, 1, none⟩) D1.out)
      clear gg
      have x00 := D0.out
      have x01 := D1.out
      go_wp2_with (fail)
      clear x00 x01
      go_ret
      exact ⟨rfl, E.out⟩
    subst hnd
    have hnb : ((nl : Int) != (nl : Int)) = false := by simp
    have x00 := D0.out
    have x01 := D1.out
    go_wp2_with (fail)
    clear x00 x01
    refine Calls.mono (c_VolumeOf_ok pt at_ nl ct qt _ cl rl v14 (by omega) HLL.out HQT.out OL.out.rd HCV.out) ?_
    rintro e v15 ⟨rfl, gg⟩
    replace E := Lib.hid (E.out.trans gg)
    replace HQT := Lib.hid (HQT.out.ext gg)
    replace OL := Lib.hid (OL.out.ext gg)
    replace RW1 := Lib.hid (RW1.out.ext gg)
    replace D0 := Lib.hid (gg.cell (p := ⟨O2, 0, none⟩) D0.out)
    replace D1 := Lib.hid (gg.cell (p := ⟨O2, 1, none⟩) D1.out)
    clear gg
    have hdv := HDV.out (by first | exact rfl | trivial)
    obtain ⟨dv, hdv0⟩ : ∃ z, z = detL pt nl rl := ⟨_, rfl⟩
    have HDE := Lib.hid hdv0
    rw [← hdv0]
    rw [← hdv0] at hdv
    clear hdv0
    have x00 := D0.out
    have x01 := D1.out
    go_wp2_with (fail)
    clear x00 x01
    refine Calls.mono (c_Determinant_ok pt _ nl cl rl v15 HPT.out (by omega) (by omega) OL.out.rd HGT'.out) ?_
    rintro e v16 ⟨rfl, gg⟩
    replace E := Lib.hid (E.out.trans gg)
    replace HQT := Lib.hid (HQT.out.ext gg)
    replace OL := Lib.hid (OL.out.ext gg)
    replace RW1 := Lib.hid (RW1.out.ext gg)
    replace D0 := Lib.hid (gg.cell (p := ⟨O2, 0, none⟩) D0.out)
    replace D1 := Lib.hid (gg.cell (p := ⟨O2, 1, none⟩) D1.out)
    clear gg
    rw [← HDE.out]
    have hcz := RW1.out.cell (j := M1) (by omega)
    rw [hdv] at hcz
    have hwM := HWM.out
    have hvM := HVM.out
    have x00 := D0.out
    have x01 := D1.out
    go_wp2_with (fail)
    clear x00 x01
    go_wp2_with (fail)
    go_ret
    exact ⟨rfl, E.out⟩
  have h1i : (1 : Int) < (nl : Int) := by omega
  have h0i : (0 : Int) < (nl : Int) := by omega
  have h0n : 0 < nl := by omega
  have h2i : (2 : Int) ≤ (nl : Int) := by omega
  have h2n : 2 ≤ nl := by omega
  have hcle := OL.out.capLe
  have hcli : (nl : Int) ≤ (cl : Int) := by omega
  have h2c : 2 ≤ cl := by omega
  obtain ⟨gl, _, rfl, _⟩ := OL.out.row (by omega)
  obtain ⟨b0, cb0, hk0, _⟩ := OL.out.at (i := 0) (by omega)
  obtain ⟨b1, cb1, hk1, _⟩ := OL.out.at (i := 1) (by omega)
  have K0 := Lib.hid hk0
  have K1 := Lib.hid hk1
  clear hk0 hk1
  have x00 := D0.out
  have x01 := D1.out
  go_wp2_with (fail)
  clear x00 x01
  obtain ⟨q, hqe, hqo⟩ : ∃ q, (if cl = 2 then some (⟨gl, 0, none⟩ : Addr) else some ⟨gl, 2, none⟩) = some ⟨gl, q, none⟩ ∧ (q = 2 ∨ nl = 2) := by
    by_cases h : cl = 2
    · exact ⟨0, by rw [if_pos h], .inr (by omega)⟩
    · exact ⟨2, by rw [if_neg h], .inl rfl⟩
  replace K0 := Lib.hid ((ext_drew v14).cell K0.out)
  replace K1 := Lib.hid ((ext_drew v14).cell K1.out)
  have HCS := Lib.hid (swap_codeVR HCV.out (by omega))
  have HLS := Lib.hid (show ∀ i, i < nl → (nthR (swapL rl 0 1) i).length ≤ 4194304 from fun i hi => by
    rw [swapL_nth (by omega) (by omega)]
    split
    · exact HLL.out 0 (by omega)
    · split
      · exact HLL.out 1 (by omega)
      · exact HLL.out i hi)
  have HZT := Lib.hid (show zeroZ (plusL pt (wedgeL pt qt (swapL rl 0 1) nl) (wedgeL pt qt rl nl) 1 M) M = true by
    have h9 := wd_swap (qs := qt) (rows := rl) (i := 0) (j := 1) HPT.out (by omega) HGQ.out.len (by decide) (by omega) (by omega)
    rw [hrln] at h9
    rw [HM.out, ← hqd]
    show zeroZ (plusL pt (wdS pt qt (swapL rl 0 1) nl) (wdS pt qt rl nl) 1 (2 ^ qt.length)) (2 ^ qt.length) = true
    rw [h9]; exact zero_nil)
  replace E := Lib.hid (E.out.trans (ext_drew v14))
  replace HQT := Lib.hid (HQT.out.ext (ext_drew v14))
  replace OL := Lib.hid (OL.out.ext (ext_drew v14))
  replace RW1 := Lib.hid (RW1.out.ext (ext_drew v14))
  replace D0 := Lib.hid ((ext_drew v14).cell (p := ⟨O2, 0, none⟩) D0.out)
  replace D1 := Lib.hid ((ext_drew v14).cell (p := ⟨O2, 1, none⟩) D1.out)
  refine wp_region_lex_tail 9 [(6, .lit2 v14.drew.heap.size (.slice b1 (nthR rl 1).length cb1) (.slice b0 (nthR rl 0).length cb0))] (by kernel_rfl) (by kernel_rfl) ?_
  simp only [List.take, List.drop]
  (refine LexW.pure (v := ?_) rfl rfl (fun w1 he => ?_) ?_; rotate_left; ( have x00 := (he.cell (p := ⟨O2, 0, none⟩) D0.out); have x01 := (he.cell (p := ⟨O2, 1, none⟩) D1.out); have y0 := he.cell K0.out; have y1 := he.cell K1.out; go_simp; rfl); simp only [Act.put, List.setIfInBounds_toArray, List.set_cons_zero, List.set_cons_succ])
  (refine LexW.pure (v := ?_) rfl rfl (fun w1 he => ?_) ?_; rotate_left; ( have x00 := (he.cell (p := ⟨O2, 0, none⟩) D0.out); have x01 := (he.cell (p := ⟨O2, 1, none⟩) D1.out); have y0 := he.cell K0.out; have y1 := he.cell K1.out; go_simp; rfl); simp only [Act.put, List.setIfInBounds_toArray, List.set_cons_zero, List.set_cons_succ])
  (refine LexW.pure (v := ?_) rfl rfl (fun w1 he => ?_) ?_; rotate_left; ( have x00 := (he.cell (p := ⟨O2, 0, none⟩) D0.out); have x01 := (he.cell (p := ⟨O2, 1, none⟩) D1.out); have y0 := he.cell K0.out; have y1 := he.cell K1.out; go_simp; rfl); simp only [Act.put, List.setIfInBounds_toArray, List.set_cons_zero, List.set_cons_succ])
  (refine LexW.pure (v := ?_) rfl rfl (fun w1 he => ?_) ?_; rotate_left; ( have x00 := (he.cell (p := ⟨O2, 0, none⟩) D0.out); have x01 := (he.cell (p := ⟨O2, 1, none⟩) D1.out); have y0 := he.cell K0.out; have y1 := he.cell K1.out; go_simp; rfl); simp only [Act.put, List.setIfInBounds_toArray, List.set_cons_zero, List.set_cons_succ])
  (refine LexW.pure (v := ?_) rfl rfl (fun w1 he => ?_) ?_; rotate_left; ( have x00 := (he.cell (p := ⟨O2, 0, none⟩) D0.out); have x01 := (he.cell (p := ⟨O2, 1, none⟩) D1.out); have y0 := he.cell K0.out; have y1 := he.cell K1.out; go_simp; rfl); simp only [Act.put, List.setIfInBounds_toArray, List.set_cons_zero, List.set_cons_succ])
  (refine LexW.pure (v := ?_) rfl rfl (fun w1 he => ?_) ?_; rotate_left; ( have x00 := (he.cell (p := ⟨O2, 0, none⟩) D0.out); have x01 := (he.cell (p := ⟨O2, 1, none⟩) D1.out); have y0 := he.cell K0.out; have y1 := he.cell K1.out; go_simp; rfl); simp only [Act.put, List.setIfInBounds_toArray, List.set_cons_zero, List.set_cons_succ])
  (refine LexW.rel rfl rfl (fun w1 he hdep => ?_) (fun v hv => ?_); ( exact ⟨.slice (some ⟨w1.heap.size, 0, none⟩) 2 2, w1.alloc (.cells #[.slice b1 (nthR rl 1).length cb1, .slice b0 (nthR rl 0).length cb0] 24), (by go_simp), ext_alloc _ _, _, rfl, lit2_new _ _ _ he.size⟩); simp only [Act.put, List.setIfInBounds_toArray, List.set_cons_zero, List.set_cons_succ])
  obtain ⟨_, gL, rfl, _⟩ := hv
  (refine LexW.pure (v := ?_) rfl rfl (fun w1 he => ?_) ?_; rotate_left; ( have x00 := (he.cell (p := ⟨O2, 0, none⟩) D0.out); have x01 := (he.cell (p := ⟨O2, 1, none⟩) D1.out); have y0 := he.cell K0.out; have y1 := he.cell K1.out; go_simp; rfl); simp only [Act.put, List.setIfInBounds_toArray, List.set_cons_zero, List.set_cons_succ])
  (refine LexW.pure (v := ?_) rfl rfl (fun w1 he => ?_) ?_; rotate_left; ( have x00 := (he.cell (p := ⟨O2, 0, none⟩) D0.out); have x01 := (he.cell (p := ⟨O2, 1, none⟩) D1.out); have y0 := he.cell K0.out; have y1 := he.cell K1.out; go_simp; rfl); simp only [Act.put, List.setIfInBounds_toArray, List.set_cons_zero, List.set_cons_succ])
  refine LexW.nil (fun w3 he hkn => ?_)
  have HE := Lib.hid he
  have RLIT := Lib.hid (show w3.ownsRow v14.drew.heap.size 24 1 (.slice (some ⟨gL, 0, none⟩) 2 2) 2 [.slice b1 (nthR rl 1).length cb1, .slice b0 (nthR rl 0).length cb0] by obtain ⟨_, q, r⟩ : (SPred.lit2 v14.drew.heap.size (.slice b1 (nthR rl 1).length cb1) (.slice b0 (nthR rl 0).length cb0)).holds (.slice (some ⟨gL, 0, none⟩) 2 2) w3 := hkn (6, _) (by simp); cases q; exact r)
  clear he hkn 
  go_wp2_with (at_builtin; refine wpList_turned (v := v14.drew) rfl (.tmp 163) (.tmp 165) rfl rfl rfl (rows := rl) OL.out.rd h2n (by omega) hqo K0.out K1.out HE.out RLIT.out ?hk)
  case hk =>
    intro gt capt v15 ht gg
    have MT := Lib.hid ht
    clear ht RLIT HE K0 K1
    replace E := Lib.hid (E.out.trans gg)
    replace HQT := Lib.hid (HQT.out.ext gg)
    replace OL := Lib.hid (OL.out.ext gg)
    replace RW1 := Lib.hid (RW1.out.ext gg)
    replace D0 := Lib.hid (gg.cell (p := ⟨O2, 0, none⟩) D0.out)
    replace D1 := Lib.hid (gg.cell (p := ⟨O2, 1, none⟩) D1.out)
    clear gg
    have x00 := D0.out
    have x01 := D1.out
    go_wp2_with (fail)
    clear x00 x01
    have HWT := c_WedgeOfVectors_ok pt at_ dt ct qt (some ⟨gt, 0, none⟩) nl capt (swapL rl 0 1) v15 (by omega) (by omega) HLS.out HQT.out MT.out HCS.out
    rw [← HM.out] at HWT
    refine Calls.mono (HWT) ?_
    rintro e v16 ⟨rS, kS, rfl, ho, gg⟩
    have RS := Lib.hid (ho.mono (Nat.zero_le _))
    clear ho
    replace E := Lib.hid (E.out.trans gg)
    replace HQT := Lib.hid (HQT.out.ext gg)
    replace OL := Lib.hid (OL.out.ext gg)
    replace RW1 := Lib.hid (RW1.out.ext gg)
    replace MT := Lib.hid (MT.out.ext gg)
    replace D0 := Lib.hid (gg.cell (p := ⟨O2, 0, none⟩) D0.out)
    replace D1 := Lib.hid (gg.cell (p := ⟨O2, 1, none⟩) D1.out)
    clear gg
    clear HWT
    have x00 := D0.out
    have x01 := D1.out
    go_wp2_with (fail)
    clear x00 x01
    refine Calls.mono (l_plus5 pt _ _ M _ _ (wedgeL pt qt (swapL rl 0 1) nl) (wedgeL pt qt rl nl) 1 v16 (by omega) (by omega) (by omega) (by omega) RS.out.rd RW1.out.rd (HGW.out _) (HGW.out _)) ?_
    rintro e v17 ⟨gP, cP, rfl, ho, gg⟩
    have RP := Lib.hid (ho.mono (Nat.zero_le _))
    clear ho
    replace E := Lib.hid (E.out.trans gg)
    replace HQT := Lib.hid (HQT.out.ext gg)
    replace OL := Lib.hid (OL.out.ext gg)
    replace RW1 := Lib.hid (RW1.out.ext gg)
    replace MT := Lib.hid (MT.out.ext gg)
    replace RS := Lib.hid (RS.out.ext gg)
    replace D0 := Lib.hid (gg.cell (p := ⟨O2, 0, none⟩) D0.out)
    replace D1 := Lib.hid (gg.cell (p := ⟨O2, 1, none⟩) D1.out)
    clear gg
    have x00 := D0.out
    have x01 := D1.out
    go_wp2_with (fail)
    clear x00 x01
    refine Calls.mono (l_zero5 _ M _ _ v17 (by omega) RP.out.rd) ?_
    rintro e v18 ⟨rfl, gg⟩
    replace E := Lib.hid (E.out.trans gg)
    replace HQT := Lib.hid (HQT.out.ext gg)
    replace OL := Lib.hid (OL.out.ext gg)
    replace RW1 := Lib.hid (RW1.out.ext gg)
    replace MT := Lib.hid (MT.out.ext gg)
    replace RS := Lib.hid (RS.out.ext gg)
    replace RP := Lib.hid (RP.out.ext gg)
    replace D0 := Lib.hid (gg.cell (p := ⟨O2, 0, none⟩) D0.out)
    replace D1 := Lib.hid (gg.cell (p := ⟨O2, 1, none⟩) D1.out)
    clear gg
    rw [HZT.out]
    clear MT RS RP
    by_cases hnd : nl = dt
    rotate_left
    · skip
      have hnb : ((nl : Int) != (dt : Int)) = true := by simp; omega
      have x00 := D0.out
      have x01 := D1.out
      go_wp2_with (fail)
      clear x00 x01
      refine Calls.mono (c_VolumeOf_no pt at_ dt ct qt _ nl cl rl v18 (by omega) (by omega) HLL.out HQT.out OL.out.rd HCV.out hnd) ?_
      rintro e v19 ⟨rfl, gg⟩
      replace E := Lib.hid (E.out.trans gg)
      replace HQT := Lib.hid (HQT.out.ext gg)
      replace OL := Lib.hid (OL.out.ext gg)
      replace RW1 := Lib.hid (RW1.out.ext gg)
      replace D0 := Lib.hid (gg.cell (p := ⟨O2, 0, none⟩) D0.out)
      replace D1 := Lib.hid (gg.cell (p := ⟨O2, 1, none⟩) D1.out)
      clear gg
      have x00 := D0.out
      have x01 := D1.out
      go_wp2_with (fail)
      clear x00 x01
      go_ret
      exact ⟨rfl, E.out⟩
    subst hnd
    have hnb : ((nl : Int) != (nl : Int)) = false := by simp
    have x00 := D0.out
    have x01 := D1.out
    go_wp2_with (fail)
    clear x00 x01
    refine Calls.mono (c_VolumeOf_ok pt at_ nl ct qt _ cl rl v18 (by omega) HLL.out HQT.out OL.out.rd HCV.out) ?_
    rintro e v19 ⟨rfl, gg⟩
    replace E := Lib.hid (E.out.trans gg)
    replace HQT := Lib.hid (HQT.out.ext gg)
    replace OL := Lib.hid (OL.out.ext gg)
    replace RW1 := Lib.hid (RW1.out.ext gg)
    replace D0 := Lib.hid (gg.cell (p := ⟨O2, 0, none⟩) D0.out)
    replace D1 := Lib.hid (gg.cell (p := ⟨O2, 1, none⟩) D1.out)
    clear gg
    have hdv := HDV.out (by first | exact rfl | trivial)
    obtain ⟨dv, hdv0⟩ : ∃ z, z = detL pt nl rl := ⟨_, rfl⟩
    have HDE := Lib.hid hdv0
    rw [← hdv0]
    rw [← hdv0] at hdv
    clear hdv0
    have x00 := D0.out
    have x01 := D1.out
    go_wp2_with (fail)
    clear x00 x01
    refine Calls.mono (c_Determinant_ok pt _ nl cl rl v19 HPT.out (by omega) (by omega) OL.out.rd HGT'.out) ?_
    rintro e v20 ⟨rfl, gg⟩
    replace E := Lib.hid (E.out.trans gg)
    replace HQT := Lib.hid (HQT.out.ext gg)
    replace OL := Lib.hid (OL.out.ext gg)
    replace RW1 := Lib.hid (RW1.out.ext gg)
    replace D0 := Lib.hid (gg.cell (p := ⟨O2, 0, none⟩) D0.out)
    replace D1 := Lib.hid (gg.cell (p := ⟨O2, 1, none⟩) D1.out)
    clear gg
    rw [← HDE.out]
    have hcz := RW1.out.cell (j := M1) (by omega)
    rw [hdv] at hcz
    have hwM := HWM.out
    have hvM := HVM.out
    have x00 := D0.out
    have x01 := D1.out
    go_wp2_with (fail)
    clear x00 x01
    go_wp2_with (fail)
    go_ret
    exact ⟨rfl, E.out⟩
end Go.Proofs.Ytnbhlabcecdbgaa
